/- Functions of the program and of the reference as plain functions, and that the Go code comes to their answers; several texts in one. No conditions beyond what each theorem says. -/
import Derived.Test.YtcbpbnkoolpibaaMCleanxF54
import Derived.Test.YtcbpbnkoolpibaaMClean1sa
import Derived.Test.YtcbpbnkoolpibaaMClean1va
import Derived.Test.YtcbpbnkoolpibaaMClean1a
import Derived.Test.YtcbpbnkoolpibaaMClean0a
import Derived.Test.YtcbpbnkoolpibaaMClean0b
import Derived.Test.YtcbpbnkoolpibaaMClean0sa
set_option maxHeartbeats 8000000
set_option maxRecDepth 100000
set_option linter.unusedVariables false
set_option linter.unusedSimpArgs false
namespace Go.Proofs.Ytcbpbnkoolpibaa.Ok
open RowKit P YtcbpbnkoolpibaaW.wA YtcbpbnkoolpibaaW.wB Aux
def blockB (z s nb : Int) (code : List S57) (j a to_ el : Int) : Bool :=
  if (code.any fun x => !instrB z s x.f0 x.f1 x.f2 x.f3 x.f4 x.f5 x.f6) then false
  else if s < 0 then false
  else if j = 0 then inR to_ 0 (nb - 1) && (a == 0 && el == 0)
  else if j = 1 then inR to_ 0 (nb - 1) && (inR el 0 (nb - 1) && inB a s)
  else if j = 2 then inB a s && (to_ == 0 && el == 0)
  else false
def tailB (s nb : Int) (j a to_ el : Int) : Bool :=
  if j = 0 then inR to_ 0 (nb - 1) && (a == 0 && el == 0)
  else if j = 1 then inR to_ 0 (nb - 1) && (inR el 0 (nb - 1) && inB a s)
  else if j = 2 then inB a s && (to_ == 0 && el == 0)
  else false
theorem rdII' (xs : List S57) (i : Nat) (h : i < xs.length) : r57 xs (i : Int) = xs[i] := by simp [r57, List.getD_eq_getElem?_getD, List.getElem?_eq_getElem h]
theorem block_l0 (zs : List Int) (p v s : Int) (bs : List S47) (code : List S57) (j a to_ el : Int) (hs : 0 ≤ s) (hs2 : s ≤ 9223372036854775807) (hz : zs.length ≤ 9223372036854775807) (hb : bs.length ≤ 9223372036854775807) (hn : code.length < 9223372036854775807) (d : Nat) : ∀ i : Nat, i + d = code.length →
    Ev (fun k => spec_l04BlockOk.l0 k (i : Int) zs p v s bs code j a to_ el) (if ((code.drop i).any fun x => !instrB (zs.length : Int) s x.f0 x.f1 x.f2 x.f3 x.f4 x.f5 x.f6) then false else tailB s (bs.length : Int) j a to_ el) := by
  induction d with
  | zero =>
    intro i hi
    rw [List.drop_eq_nil_of_le (by omega)]
    refine ⟨1, fun k hk => ?_⟩
    obtain ⟨m, rfl⟩ : ∃ m, k = m + 1 := ⟨k - 1, by omega⟩
    have w1 : wrap64 (s - 1) = s - 1 := wrap_ok (by omega) (by omega)
    have w2 : wrap64 ((bs.length : Int) - 1) = (bs.length : Int) - 1 := wrap_ok (by omega) (by omega)
    have inS : ∀ x, inR x 0 (s - 1) = inB x s := fun x => inR_inB x s
    have hc : ¬ (i : Int) < (code.length : Int) := by omega
    have L1 : ∀ X Y : Bool, (if X = true then some Y else some false) = some (X && Y) := fun X Y => by cases X <;> rfl
    have L2 : ∀ (x : Int) (Y : Bool), (if x = 0 then some Y else some false) = some ((x == 0) && Y) := fun x Y => by by_cases h : x = 0 <;> simp [h]
    clear hi hk hs hs2 hz hb hn
    simp only [spec_l04BlockOk.l0, if_neg hc, w1, w2, in_some, inS, Option.bind_some, List.any_nil]
    unfold tailB
    generalize inR to_ 0 ((bs.length : Int) - 1) = T
    generalize inR el 0 ((bs.length : Int) - 1) = E
    generalize inB a s = A
    by_cases h0 : j = 0
    · simp [h0, L1, L2, Bool.and_comm, Bool.and_left_comm, Bool.and_assoc]
    by_cases h1 : j = 1
    · simp [h1, L1, L2, Bool.and_comm, Bool.and_left_comm, Bool.and_assoc]
    by_cases h2 : j = 2
    · simp [h2, L1, L2, Bool.and_comm, Bool.and_left_comm, Bool.and_assoc]
    simp [h0, h1, h2]
  | succ d ih =>
    intro i hi
    have hd : code.drop i = code[i]'(by omega) :: code.drop (i + 1) := List.drop_eq_getElem_cons (by omega)
    have hr := rdII' code i (by omega)
    rw [hd, List.any_cons]
    have hi2 := instr_ev zs p v s bs (code[i]'(by omega)).f0 (code[i]'(by omega)).f1 (code[i]'(by omega)).f2 (code[i]'(by omega)).f3 (code[i]'(by omega)).f4 (code[i]'(by omega)).f5 (code[i]'(by omega)).f6 hs hs2 hz
    cases hq : instrB (zs.length : Int) s (code[i]'(by omega)).f0 (code[i]'(by omega)).f1 (code[i]'(by omega)).f2 (code[i]'(by omega)).f3 (code[i]'(by omega)).f4 (code[i]'(by omega)).f5 (code[i]'(by omega)).f6 with
    | false =>
      rw [hq] at hi2
      refine Ev.step (fun k => by rw [spec_l04BlockOk.l0, if_pos (by omega), if_pos (by omega), hr]) (Ev.bind hi2 (f := fun k t => if t = true then spec_l04BlockOk.l0 k (wrap64 ((i : Int) + 1)) zs p v s bs code j a to_ el else some false) ?_)
      exact Ev.ite_neg (by simp) (Ev.now _)
    | true =>
      rw [hq] at hi2
      refine Ev.step (fun k => by rw [spec_l04BlockOk.l0, if_pos (by omega), if_pos (by omega), hr]) (Ev.bind hi2 (f := fun k t => if t = true then spec_l04BlockOk.l0 k (wrap64 ((i : Int) + 1)) zs p v s bs code j a to_ el else some false) ?_)
      rw [wrap_ok (by omega) (by omega), ← Int.natCast_succ]
      exact Ev.ite_pos rfl (ih (i + 1) (by omega))
theorem block_ev (zs : List Int) (p v s : Int) (bs : List S47) (code : List S57) (j a to_ el : Int) (hs : 0 ≤ s) (hs2 : s ≤ 9223372036854775807) (hz : zs.length ≤ 9223372036854775807) (hb : bs.length ≤ 9223372036854775807) (hn : code.length < 9223372036854775807) :
    Ev (fun k => spec_l04BlockOk.f k zs p v s bs code j a to_ el) (blockB (zs.length : Int) s (bs.length : Int) code j a to_ el) := by
  have h := block_l0 zs p v s bs code j a to_ el hs hs2 hz hb hn code.length 0 (by omega)
  rw [List.drop_zero] at h
  unfold blockB
  rw [if_neg (show ¬ s < 0 by omega)]
  exact h
theorem in_some' (x a b : Int) : impl_in.f x a b = some (inR x a b) := by
  unfold impl_in.f inR
  by_cases h : x ≥ a
  · rw [if_pos h, decide_eq_true h, Bool.true_and]
  · rw [if_neg h, decide_eq_false h, Bool.false_and]
theorem isBlock_ev (zs : List Int) (p v s : Int) (bs : List S47) (code : List S57) (j a to_ el : Int) (hb : bs.length ≤ 9223372036854775807) :
    Ev (fun k => impl_isBlock.f k zs p v s bs code j a to_ el) (blockB (zs.length : Int) s (bs.length : Int) code j a to_ el) := by
  have w2 : wrap64 ((bs.length : Int) - 1) = (bs.length : Int) - 1 := wrap_ok (by omega) (by omega)
  have L1 : ∀ X Y : Bool, (if X = true then some Y else some false) = some (X && Y) := fun X Y => by cases X <;> rfl
  have L2 : ∀ (x : Int) (Y : Bool), (if x = 0 then some Y else some false) = some ((x == 0) && Y) := fun x Y => by by_cases h : x = 0 <;> simp [h]
  have L5 : ∀ Y : Bool, (if a < s then some Y else some false) = some (decide (a < s) && Y) := fun Y => by by_cases h : a < s <;> simp [h]
  refine ⟨1, fun k hk => ?_⟩
  obtain ⟨m, rfl⟩ : ∃ m, k = m + 1 := ⟨k - 1, by omega⟩
  clear hk hb
  unfold impl_isBlock.f impl_Instr_74.f blockB
  simp only [Option.bind_some, w2, in_some', impl_isBlock.j0]
  have hA : inB a s = (decide (0 ≤ a) && decide (a < s)) := rfl
  rw [hA]
  generalize (code.any fun x => !instrB (zs.length : Int) s x.f0 x.f1 x.f2 x.f3 x.f4 x.f5 x.f6) = K
  generalize inR to_ 0 ((bs.length : Int) - 1) = T
  generalize inR el 0 ((bs.length : Int) - 1) = E
  cases K with
  | true => simp
  | false =>
    by_cases hs : s < 0
    · by_cases ha : a ≥ 0 <;> simp [hs, ha]
    by_cases ha : a ≥ 0
    · have ha' : 0 ≤ a := ha
      by_cases h0 : j = 0
      · simp [h0, hs, ha, ha', L1, L2, L5, Bool.and_comm, Bool.and_left_comm, Bool.and_assoc]
      by_cases h1 : j = 1
      · simp [h1, hs, ha, ha', L1, L2, L5, Bool.and_comm, Bool.and_left_comm, Bool.and_assoc]
      by_cases h2 : j = 2
      · simp [h2, hs, ha, ha', L1, L2, L5, Bool.and_comm, Bool.and_left_comm, Bool.and_assoc]
      simp [h0, h1, h2, hs, ha]
    · have ha' : ¬ 0 ≤ a := ha
      by_cases h0 : j = 0
      · simp [h0, hs, ha, ha', L1, L2, L5, Bool.and_comm, Bool.and_left_comm, Bool.and_assoc]
      by_cases h1 : j = 1
      · simp [h1, hs, ha, ha', L1, L2, L5, Bool.and_comm, Bool.and_left_comm, Bool.and_assoc]
      by_cases h2 : j = 2
      · simp [h2, hs, ha, ha', L1, L2, L5, Bool.and_comm, Bool.and_left_comm, Bool.and_assoc]
      simp [h0, h1, h2, hs, ha]
end Go.Proofs.Ytcbpbnkoolpibaa.Ok
namespace Go.Proofs.Ytcbpbnkoolpibaa.P
open RowKit YtcbpbnkoolpibaaW.wA YtcbpbnkoolpibaaW.wB YtcbpbnkoolpibaaW.wC
attribute [local go_sem] max2_int min2_int max_two min_two max_three min_three max_four min_four

mutual
def impl_isGraph.j0 : Nat → Bool → List Int → Int → Int → Int → List (S47) → Option (Bool)
  | 0, _, _, _, _, _, _ => none
  | k + 1, x29, x102000, x102001, x102002, x102003, x102004 => if x29 = true then (some false) else (impl_isGraph.l0 k 0 x102004 (x102004.length : Int) 0 x102000 x102001 x102002 x102003 x102004)
def impl_isGraph.l0 : Nat → Int → List (S47) → Int → Int → List Int → Int → Int → Int → List (S47) → Option (Bool)
  | 0, _, _, _, _, _, _, _, _, _ => none
  | k + 1, x3, x31, x32, x33, x102000, x102001, x102002, x102003, x102004 => if x33 < x32 then (if 0 ≤ x33 then (if x33 < (x31.length : Int) then ((impl_isBlock.f k x102000 x102001 x102002 x102003 x102004 ((r47 x31 x33).f0) ((r47 x31 x33).f1) ((r47 x31 x33).f2) ((r47 x31 x33).f3) ((r47 x31 x33).f4)).bind fun t107 => (if t107 = true then (impl_isGraph.l0 k (wrap64 (x3 + (((r47 x31 x33).f0).length : Int))) x31 x32 (wrap64 (x33 + 1)) x102000 x102001 x102002 x102003 x102004) else (some false))) else (none)) else (none)) else (some (decide (x3 ≤ 1000)))
end
def impl_isGraph.f (k : Nat) (l0_0 : List Int) (a0_1 : Int) (a0_2 : Int) (a0_3 : Int) (l0_4 : List (S47)) : Option (Bool) := (impl_isProgram.f l0_0 a0_1 a0_2).bind fun t102 => (if t102 = true then ((impl_in.f a0_3 a0_2 1000).bind fun t103 => (if t103 = true then ((impl_in.f (l0_4.length : Int) 1 300).bind fun t104 => (impl_isGraph.j0 k (!t104) l0_0 a0_1 a0_2 a0_3 l0_4)) else (impl_isGraph.j0 k true l0_0 a0_1 a0_2 a0_3 l0_4))) else (impl_isGraph.j0 k true l0_0 a0_1 a0_2 a0_3 l0_4))
theorem impl_isGraph.mono_l : ∀ k, (∀ y0 y1 y2 y3 y4 y5, LeO (impl_isGraph.j0 k y0 y1 y2 y3 y4 y5) (impl_isGraph.j0 (k + 1) y0 y1 y2 y3 y4 y5)) ∧ (∀ y0 y1 y2 y3 y4 y5 y6 y7 y8, LeO (impl_isGraph.l0 k y0 y1 y2 y3 y4 y5 y6 y7 y8) (impl_isGraph.l0 (k + 1) y0 y1 y2 y3 y4 y5 y6 y7 y8))
  | 0 => ⟨fun _ _ _ _ _ _ r h => by simp [impl_isGraph.j0] at h, fun _ _ _ _ _ _ _ _ _ r h => by simp [impl_isGraph.l0] at h⟩
  | k + 1 => by
    obtain ⟨ih0, ih1⟩ := impl_isGraph.mono_l k
    refine ⟨?_, ?_⟩
    · intro y0 y1 y2 y3 y4 y5
      unfold impl_isGraph.j0
      repeat' (first | (with_reducible first | exact ih0 _ _ _ _ _ _ | exact ih1 _ _ _ _ _ _ _ _ _ | exact impl_isBlock.mono _ _ _ _ _ _ _ _ _ _ _ | exact LeO.refl _ | exact LeO.none _ | refine LeO.ite ?_ ?_ | refine LeO.bind ?_ (fun _ => ?_)) | exact ih0 _ _ _ _ _ _ | exact ih1 _ _ _ _ _ _ _ _ _ | exact impl_isBlock.mono _ _ _ _ _ _ _ _ _ _ _ | exact LeO.none _ | refine LeO.ite ?_ ?_ | refine LeO.bind ?_ (fun _ => ?_))
    · intro y0 y1 y2 y3 y4 y5 y6 y7 y8
      unfold impl_isGraph.l0
      repeat' (first | (with_reducible first | exact ih0 _ _ _ _ _ _ | exact ih1 _ _ _ _ _ _ _ _ _ | exact impl_isBlock.mono _ _ _ _ _ _ _ _ _ _ _ | exact LeO.refl _ | exact LeO.none _ | refine LeO.ite ?_ ?_ | refine LeO.bind ?_ (fun _ => ?_)) | exact ih0 _ _ _ _ _ _ | exact ih1 _ _ _ _ _ _ _ _ _ | exact impl_isBlock.mono _ _ _ _ _ _ _ _ _ _ _ | exact LeO.none _ | refine LeO.ite ?_ ?_ | refine LeO.bind ?_ (fun _ => ?_))
theorem impl_isGraph.mono : ∀ a0 a1 a2 a3 a4 k, LeO (impl_isGraph.f k a0 a1 a2 a3 a4) (impl_isGraph.f (k + 1) a0 a1 a2 a3 a4) := by
  intro a0 a1 a2 a3 a4 k
  obtain ⟨ih0, ih1⟩ := impl_isGraph.mono_l k
  unfold impl_isGraph.f
  repeat' (first | (with_reducible first | exact ih0 _ _ _ _ _ _ | exact ih1 _ _ _ _ _ _ _ _ _ | exact impl_isBlock.mono _ _ _ _ _ _ _ _ _ _ _ | exact LeO.refl _ | exact LeO.none _ | refine LeO.ite ?_ ?_ | refine LeO.bind ?_ (fun _ => ?_)) | exact ih0 _ _ _ _ _ _ | exact ih1 _ _ _ _ _ _ _ _ _ | exact impl_isBlock.mono _ _ _ _ _ _ _ _ _ _ _ | exact LeO.none _ | refine LeO.ite ?_ ?_ | refine LeO.bind ?_ (fun _ => ?_))
theorem impl_isGraph.calls (k : Nat) (A0_0 : Option Addr) (c0_0 : Nat) (l0_0 : List Int) (a0_1 : Int) (a0_2 : Int) (a0_3 : Int) (A0_4 : Option Addr) (c0_4 : Nat) (l0_4 : List (S47)) (r : Bool) (w : World) (hr0_0 : Kd.C (Kd.int .i64) w A0_0 l0_0.length l0_0) (hc0_0 : l0_0.length ≤ c0_0) (hr0_4 : Kd.C k47 w A0_4 l0_4.length l0_4) (hc0_4 : l0_4.length ≤ c0_4) (h : impl_isGraph.f k l0_0 a0_1 a0_2 a0_3 l0_4 = some r) :
  Calls Try.prog 33 #[.agg #[.slice A0_0 l0_0.length c0_0, .int .i64 a0_1, .int .i64 a0_2, .int .i64 a0_3, .slice A0_4 l0_4.length c0_4]] w fun e w' => e = .returned (.bool r) ∧ Below w.heap.size w w' := by
 have hu29 := Try.underlying29
 have hu47 := Try.underlying47
 have HR0_0 := Zs0.mk hr0_0
 have HC0_0 := Zs0.mk hc0_0
 clear hr0_0 hc0_0
 have HR0_4 := Zs0.mk hr0_4
 have HC0_4 := Zs0.mk hc0_4
 clear hr0_4 hc0_4
 have HB := Zs0.mk (Below.refl w.heap.size w)
 have H : ((impl_isProgram.f l0_0 a0_1 a0_2).bind fun t102 => (if t102 = true then ((impl_in.f a0_3 a0_2 1000).bind fun t103 => (if t103 = true then ((impl_in.f (l0_4.length : Int) 1 300).bind fun t104 => (impl_isGraph.j0 k (!t104) l0_0 a0_1 a0_2 a0_3 l0_4)) else (impl_isGraph.j0 k true l0_0 a0_1 a0_2 a0_3 l0_4))) else (impl_isGraph.j0 k true l0_0 a0_1 a0_2 a0_3 l0_4))) = some r := h
 clear h
 have HC2 := Zs0.mk H
 clear H
 go_enter Try.func33, Try.ntmps33
 go_upto_region 1 with (first | ((with_reducible refine gtD (N := 1) rfl ?_); (try (refine gate_guard (by rfl) ?_; dsimp only)); refine bxE ?hg (N := 1) ?hd (cs := #[.slice A0_0 l0_0.length c0_0, .int .i64 a0_1, .int .i64 a0_2, .int .i64 a0_3, .slice A0_4 l0_4.length c0_4]) (t := 29) ?hr ?_; (case hd => rfl); (case hg => rfl); (case hr => first | (go_simp; done) | (go_simp; rfl)); intro gb101 hg w3 hbox hb; have n0_ := Zs0.mk (blT zB hb); have n1_ := Zs0.mk (hbox); have n2_ := Zs0.mk (zs hg : w.heap.size ≤ gb101); have n3_ := Zs0.mk (zs hg : w.heap.size ≤ gb101); revert n0_ n1_ n2_ n3_; clear HB; intro HB BK101 GW101 GE101; clear hb hbox hg))
 (try simp only [Act.put, List.setIfInBounds_toArray, List.set_cons_zero, List.set_cons_succ])
 go_cut [29] (fun v29 wc => ∃ (kq : Nat) (x29_1 : Bool), v29 = .bool x29_1 ∧ Zs0 (impl_isGraph.j0 kq x29_1 l0_0 a0_1 a0_2 a0_3 l0_4 = some r) ∧ Zs0 (kq ≤ k) ∧ Zs0 (wc.heap[gb101]? = some (.cells #[(.slice A0_0 l0_0.length c0_0), .int .i64 a0_1, .int .i64 a0_2, .int .i64 a0_3, (.slice A0_4 l0_4.length c0_4)] 29 (0, 0))) ∧ Zs0 (Below w.heap.size w wc))
 case first =>
  have H := HC2.out
  clear HC2
  replace H := Option.bind_eq_some_iff.mp H
  obtain ⟨t102, A40, H⟩ := H
  replace H : (if t102 = true then ((impl_in.f a0_3 a0_2 1000).bind fun t103 => (if t103 = true then ((impl_in.f (l0_4.length : Int) 1 300).bind fun t104 => (impl_isGraph.j0 k (!t104) l0_0 a0_1 a0_2 a0_3 l0_4)) else (impl_isGraph.j0 k true l0_0 a0_1 a0_2 a0_3 l0_4))) else (impl_isGraph.j0 k true l0_0 a0_1 a0_2 a0_3 l0_4)) = some r := H
  have A4 := Zs0.mk A40
  clear A40
  by_cases c5 : t102 = true
  ·subst c5
   have H1 : ((impl_in.f a0_3 a0_2 1000).bind fun t103 => (if t103 = true then ((impl_in.f (l0_4.length : Int) 1 300).bind fun t104 => (impl_isGraph.j0 k (!t104) l0_0 a0_1 a0_2 a0_3 l0_4)) else (impl_isGraph.j0 k true l0_0 a0_1 a0_2 a0_3 l0_4))) = some r := by rw [if_pos rfl] at H; exact H
   clear H
   have H := H1
   clear H1
   replace H := Option.bind_eq_some_iff.mp H
   obtain ⟨t103, A60, H⟩ := H
   replace H : (if t103 = true then ((impl_in.f (l0_4.length : Int) 1 300).bind fun t104 => (impl_isGraph.j0 k (!t104) l0_0 a0_1 a0_2 a0_3 l0_4)) else (impl_isGraph.j0 k true l0_0 a0_1 a0_2 a0_3 l0_4)) = some r := H
   have A6 := Zs0.mk A60
   clear A60
   by_cases c7 : t103 = true
   ·subst c7
    have H1 : ((impl_in.f (l0_4.length : Int) 1 300).bind fun t104 => (impl_isGraph.j0 k (!t104) l0_0 a0_1 a0_2 a0_3 l0_4)) = some r := by rw [if_pos rfl] at H; exact H
    clear H
    have H := H1
    clear H1
    replace H := Option.bind_eq_some_iff.mp H
    obtain ⟨t104, A80, H⟩ := H
    replace H : (impl_isGraph.j0 k (!t104) l0_0 a0_1 a0_2 a0_3 l0_4) = some r := H
    have A8 := Zs0.mk A80
    clear A80
    have H' := Zs0.mk H
    clear H
    obtain ⟨hcz9_0, hcz9_1, hcz9_2, hcz9_3, hcz9_4, hfz9_0, hfz9_1, hfz9_2, hfz9_3, hfz9_4⟩ := bx5 BK101.out
    go_wp2_with (first | ((with_reducible refine gtC (f := 52) rfl ?_); refine goesL_ (some 13) rfl rfl Try.func52 (by kernel_rfl) rfl #[.agg #[.slice A0_0 l0_0.length c0_0, .int .i64 a0_1, .int .i64 a0_2, .slice none 0 0]] rfl zM ?_; (with_reducible refine (impl_isProgram.calls _ _ l0_0 a0_1 a0_2 true _ ?side1 ?side2 A4.out).mono ?_); (case side1 => exact zC HR0_0.out); (case side2 => exact HC0_0.out); rintro e w10 ⟨rfl, hb⟩; refine ⟨_, rfl, ?_⟩; have n0_ := Zs0.mk (bkB (zG BK101.out) hb); have n1_ := Zs0.mk (blT zB hb); revert n0_ n1_; clear BK101 HB; intro BK101 HB; (try clear hb); (try clear hb2); (try clear hk); (try clear hi); obtain ⟨hcz11_0, hcz11_1, hcz11_2, hcz11_3, hcz11_4, hfz11_0, hfz11_1, hfz11_2, hfz11_3, hfz11_4⟩ := bx5 BK101.out) | (go_at_call 53; (with_reducible refine (impl_in.calls a0_3 a0_2 1000 true _ A6.out).mono ?_); rintro e w' ⟨rfl, ⟨nd, rfl⟩⟩) | (go_at_call 53; (with_reducible refine (impl_in.calls (l0_4.length : Int) 1 300 t104 _ A8.out).mono ?_); rintro e w' ⟨rfl, ⟨nd, rfl⟩⟩))
    go_meet
    case rel => exact ⟨_, (!t104), zq, H', ⟨by first | omega | exact Nat.le_refl _⟩, ⟨zG BK101.out⟩, ⟨zB⟩⟩
   ·replace c7 := Bool.eq_false_iff.mpr c7
    subst c7
    have H1 : (impl_isGraph.j0 k true l0_0 a0_1 a0_2 a0_3 l0_4) = some r := by rw [if_neg (show ¬ (false = true) by decide)] at H; exact H
    clear H
    have H := H1
    clear H1
    have H' := Zs0.mk H
    clear H
    obtain ⟨hcz12_0, hcz12_1, hcz12_2, hcz12_3, hcz12_4, hfz12_0, hfz12_1, hfz12_2, hfz12_3, hfz12_4⟩ := bx5 BK101.out
    go_wp2_with (first | ((with_reducible refine gtC (f := 52) rfl ?_); refine goesL_ (some 13) rfl rfl Try.func52 (by kernel_rfl) rfl #[.agg #[.slice A0_0 l0_0.length c0_0, .int .i64 a0_1, .int .i64 a0_2, .slice none 0 0]] rfl zM ?_; (with_reducible refine (impl_isProgram.calls _ _ l0_0 a0_1 a0_2 true _ ?side1 ?side2 A4.out).mono ?_); (case side1 => exact zC HR0_0.out); (case side2 => exact HC0_0.out); rintro e w13 ⟨rfl, hb⟩; refine ⟨_, rfl, ?_⟩; have n0_ := Zs0.mk (bkB (zG BK101.out) hb); have n1_ := Zs0.mk (blT zB hb); revert n0_ n1_; clear BK101 HB; intro BK101 HB; (try clear hb); (try clear hb2); (try clear hk); (try clear hi); obtain ⟨hcz14_0, hcz14_1, hcz14_2, hcz14_3, hcz14_4, hfz14_0, hfz14_1, hfz14_2, hfz14_3, hfz14_4⟩ := bx5 BK101.out) | (go_at_call 53; (with_reducible refine (impl_in.calls a0_3 a0_2 1000 false _ A6.out).mono ?_); rintro e w' ⟨rfl, ⟨nd, rfl⟩⟩))
    go_meet
    case rel => exact ⟨_, (true), zq, H', ⟨by first | omega | exact Nat.le_refl _⟩, ⟨zG BK101.out⟩, ⟨zB⟩⟩
  ·replace c5 := Bool.eq_false_iff.mpr c5
   subst c5
   have H1 : (impl_isGraph.j0 k true l0_0 a0_1 a0_2 a0_3 l0_4) = some r := by rw [if_neg (show ¬ (false = true) by decide)] at H; exact H
   clear H
   have H := H1
   clear H1
   have H' := Zs0.mk H
   clear H
   obtain ⟨hcz15_0, hcz15_1, hcz15_2, hcz15_3, hcz15_4, hfz15_0, hfz15_1, hfz15_2, hfz15_3, hfz15_4⟩ := bx5 BK101.out
   go_wp2_with (first | ((with_reducible refine gtC (f := 52) rfl ?_); refine goesL_ (some 13) rfl rfl Try.func52 (by kernel_rfl) rfl #[.agg #[.slice A0_0 l0_0.length c0_0, .int .i64 a0_1, .int .i64 a0_2, .slice none 0 0]] rfl zM ?_; (with_reducible refine (impl_isProgram.calls _ _ l0_0 a0_1 a0_2 false _ ?side1 ?side2 A4.out).mono ?_); (case side1 => exact zC HR0_0.out); (case side2 => exact HC0_0.out); rintro e w16 ⟨rfl, hb⟩; refine ⟨_, rfl, ?_⟩; have n0_ := Zs0.mk (bkB (zG BK101.out) hb); have n1_ := Zs0.mk (blT zB hb); revert n0_ n1_; clear BK101 HB; intro BK101 HB; (try clear hb); (try clear hb2); (try clear hk); (try clear hi)))
   go_meet
   case rel => exact ⟨_, (true), zq, H', ⟨by first | omega | exact Nat.le_refl _⟩, ⟨zG BK101.out⟩, ⟨zB⟩⟩
 case rest =>
  clear HC2
  try clear p2
  try clear c3
  try clear c5
  try clear c7
  try clear hcz11_0 hcz11_1 hcz11_2 hcz11_3 hcz11_4
  try clear hcz12_0 hcz12_1 hcz12_2 hcz12_3 hcz12_4
  try clear hcz14_0 hcz14_1 hcz14_2 hcz14_3 hcz14_4
  try clear hcz15_0 hcz15_1 hcz15_2 hcz15_3 hcz15_4
  try clear hcz9_0 hcz9_1 hcz9_2 hcz9_3 hcz9_4
  try clear hfz11_0 hfz11_1 hfz11_2 hfz11_3 hfz11_4
  try clear hfz12_0 hfz12_1 hfz12_2 hfz12_3 hfz12_4
  try clear hfz14_0 hfz14_1 hfz14_2 hfz14_3 hfz14_4
  try clear hfz15_0 hfz15_1 hfz15_2 hfz15_3 hfz15_4
  try clear hfz9_0 hfz9_1 hfz9_2 hfz9_3 hfz9_4
  obtain ⟨kq, x29_1, rfl, HA, HJ1, BK101, HB⟩ := hcut
  cases kq with
  | zero => exact absurd HA.out (by simp [impl_isGraph.j0])
  | succ kj1 =>
   have H := HA.out
   clear HA
   simp only [impl_isGraph.j0] at H
   by_cases c17 : x29_1 = true
   ·subst c17
    have H1 : (some false) = some r := by rw [if_pos rfl] at H; exact H
    clear H
    have H := H1
    clear H1
    obtain rfl := Option.some.inj H
    go_wp2
    go_ret
    exact ⟨zr, zB⟩
   ·replace c17 := Bool.eq_false_iff.mpr c17
    subst c17
    have H1 : (impl_isGraph.l0 kj1 0 l0_4 (l0_4.length : Int) 0 l0_0 a0_1 a0_2 a0_3 l0_4) = some r := by rw [if_neg (show ¬ (false = true) by decide)] at H; exact H
    clear H
    have H := H1
    clear H1
    have H' := Zs0.mk H
    clear H
    obtain ⟨hcz18_0, hcz18_1, hcz18_2, hcz18_3, hcz18_4, hfz18_0, hfz18_1, hfz18_2, hfz18_3, hfz18_4⟩ := bx5 BK101.out
    go_wp2
    go_loopg [3, 33] kj1 (fun kq v3 v33 w' => ∃ (x3_2 : Int) (x33_2 : Int), v3 = .int .i64 x3_2 ∧ v33 = .int .i64 x33_2 ∧ Zs0 (impl_isGraph.l0 kq x3_2 l0_4 (l0_4.length : Int) x33_2 l0_0 a0_1 a0_2 a0_3 l0_4 = some r) ∧ Zs0 (kq ≤ kj1) ∧ Zs0 (w'.heap[gb101]? = some (.cells #[(.slice A0_0 l0_0.length c0_0), .int .i64 a0_1, .int .i64 a0_2, .int .i64 a0_3, (.slice A0_4 l0_4.length c0_4)] 29 (0, 0))) ∧ Zs0 (Below w.heap.size w w'))
    case atStart => exact ⟨(0), (0), zq, zq, H', ⟨Nat.le_refl _⟩, ⟨zG BK101.out⟩, ⟨zB⟩⟩
    case round =>
     clear H'
     try clear c1
     try clear p2
     try clear c3
     try clear c5
     try clear c7
     try clear c17
     try clear hcz11_0 hcz11_1 hcz11_2 hcz11_3 hcz11_4
     try clear hcz12_0 hcz12_1 hcz12_2 hcz12_3 hcz12_4
     try clear hcz14_0 hcz14_1 hcz14_2 hcz14_3 hcz14_4
     try clear hcz15_0 hcz15_1 hcz15_2 hcz15_3 hcz15_4
     try clear hcz18_0 hcz18_1 hcz18_2 hcz18_3 hcz18_4
     try clear hcz9_0 hcz9_1 hcz9_2 hcz9_3 hcz9_4
     try clear hfz11_0 hfz11_1 hfz11_2 hfz11_3 hfz11_4
     try clear hfz12_0 hfz12_1 hfz12_2 hfz12_3 hfz12_4
     try clear hfz14_0 hfz14_1 hfz14_2 hfz14_3 hfz14_4
     try clear hfz15_0 hfz15_1 hfz15_2 hfz15_3 hfz15_4
     try clear hfz18_0 hfz18_1 hfz18_2 hfz18_3 hfz18_4
     try clear hfz9_0 hfz9_1 hfz9_2 hfz9_3 hfz9_4
     try clear p2
     obtain ⟨x3_2, x33_2, rfl, rfl, HA, HK2, BK101, HB⟩ := hrel
     cases gk with
     | zero => exact absurd HA.out (by simp [impl_isGraph.l0])
     | succ k2 =>
      have H := HA.out
      clear HA
      simp only [impl_isGraph.l0] at H
      by_cases c19 : x33_2 < (l0_4.length : Int)
      ·rw [if_pos c19] at H
       have c19b0 : decide (x33_2 < (l0_4.length : Int)) = true := decide_eq_true c19
       clear c19
       have c20 := ipos H
       rw [if_pos c20] at H
       have c20b0 := decide_eq_true c20
       clear c20
       have c21 := ipos H
       rw [if_pos c21] at H
       have c21b0 := decide_eq_true c21
       clear c21
       replace H := Option.bind_eq_some_iff.mp H
       obtain ⟨t107, A220, H⟩ := H
       replace H : (if t107 = true then (impl_isGraph.l0 k2 (wrap64 (x3_2 + (((r47 l0_4 x33_2).f0).length : Int))) l0_4 (l0_4.length : Int) (wrap64 (x33_2 + 1)) l0_0 a0_1 a0_2 a0_3 l0_4) else (some false)) = some r := H
       have A22 := Zs0.mk A220
       clear A220
       by_cases c23 : t107 = true
       ·subst c23
        have H1 : (impl_isGraph.l0 k2 (wrap64 (x3_2 + (((r47 l0_4 x33_2).f0).length : Int))) l0_4 (l0_4.length : Int) (wrap64 (x33_2 + 1)) l0_0 a0_1 a0_2 a0_3 l0_4) = some r := by rw [if_pos rfl] at H; exact H
        clear H
        have H := H1
        clear H1
        have H' := Zs0.mk H
        clear H
        have p105 : 0 ≤ (x33_2 : Int) := zD
        have q105 : x33_2 < (l0_4.length : Int) := zD
        obtain ⟨ad105, A105_0, c105_0, e105, hx105_0, hx105_1, hx105_2, hx105_3, hx105_4, hl105_0, hi105_0⟩ := at_T47 HR0_4.out x33_2 p105 q105
        cases e105
        replace hx105_0 := zx HB.out hx105_0
        replace hx105_1 := zx HB.out hx105_1
        replace hx105_2 := zx HB.out hx105_2
        replace hx105_3 := zx HB.out hx105_3
        replace hx105_4 := zx HB.out hx105_4
        have HR105_0 := Zs0.mk hi105_0
        have HC105_0 := Zs0.mk hl105_0
        clear hi105_0 hl105_0
        replace p105 := eq_true p105
        replace q105 := eq_true q105
        go_wp2_with (first | ((with_reducible refine gtD (N := 5) rfl ?_); (try (refine gate_guard (by rfl) ?_; dsimp only)); refine bxE ?hg (N := 5) ?hd (cs := #[.slice none 0 0, .int .i64 0, .int .i64 0, .int .i64 0, .int .i64 0]) (t := 47) ?hr ?_; (case hd => rfl); (case hg => rfl); (case hr => first | (go_simp; done) | (go_simp; rfl)); intro gb106 hg w24 hbox hb; have n0_ := Zs0.mk (bkB (zG BK101.out) hb); have n1_ := Zs0.mk (blT zB hb); have n2_ := Zs0.mk (hbox); have n3_ := Zs0.mk (zs hg : w.heap.size ≤ gb106); have n4_ := Zs0.mk (zs hg : w.heap.size ≤ gb106); have n5_ := Zs0.mk ((by rw [hg]; exact Nat.ne_of_lt (blk_lt (zG BK101.out)) : gb101 ≠ gb106)); have n6_ := Zs0.mk ((by rw [hg]; exact Nat.ne_of_gt (blk_lt (zG BK101.out)) : gb106 ≠ gb101)); revert n0_ n1_ n2_ n3_ n4_ n5_ n6_; clear BK101 HB; intro BK101 HB BK106 GW106 GE106 NB101_106 NB106_101; clear hb hbox hg; have hnb25 := NB106_101.out; have hnc25 := NB101_106.out; obtain ⟨hcz26_0, hcz26_1, hcz26_2, hcz26_3, hcz26_4, hfz26_0, hfz26_1, hfz26_2, hfz26_3, hfz26_4⟩ := bx5 BK106.out; obtain ⟨hcz27_0, hcz27_1, hcz27_2, hcz27_3, hcz27_4, hfz27_0, hfz27_1, hfz27_2, hfz27_3, hfz27_4⟩ := bx5 BK101.out) | ((with_reducible refine gtC (f := 54) rfl ?_); refine goesL_ (some 44) rfl rfl Try.func54 (by kernel_rfl) rfl #[.agg #[.slice A0_0 l0_0.length c0_0, .int .i64 a0_1, .int .i64 a0_2, .int .i64 a0_3, .slice (some ad105) l0_4.length c0_4], .agg #[.slice A105_0 ((r47 l0_4 x33_2).f0).length c105_0, .int .i64 ((r47 l0_4 x33_2).f1), .int .i64 ((r47 l0_4 x33_2).f2), .int .i64 ((r47 l0_4 x33_2).f3), .int .i64 ((r47 l0_4 x33_2).f4)]] rfl zM ?_; (with_reducible refine (impl_isBlock.calls k2 _ _ l0_0 a0_1 a0_2 a0_3 _ _ l0_4 _ _ ((r47 l0_4 x33_2).f0) ((r47 l0_4 x33_2).f1) ((r47 l0_4 x33_2).f2) ((r47 l0_4 x33_2).f3) ((r47 l0_4 x33_2).f4) true _ ?side1 ?side2 ?side3 ?side4 ?side5 ?side6 A22.out).mono ?_); (case side1 => exact Kd.cB1 HR0_0.out zB); (case side2 => exact HC0_0.out); (case side3 => exact Kd.cB1 HR0_4.out zB); (case side4 => exact HC0_4.out); (case side5 => exact Kd.cB1 HR105_0.out zB); (case side6 => exact HC105_0.out); rintro e w28 ⟨rfl, hb⟩; refine ⟨_, rfl, ?_⟩; have n0_ := Zs0.mk (bkB (g := gb101) (o := .cells #[.slice A0_0 l0_0.length c0_0, .int .i64 a0_1, .int .i64 a0_2, .int .i64 a0_3, .slice (some ad105) l0_4.length c0_4] 29 (0, 0)) (by refine zE ?_; refine blk_far ?_ NB101_106.out _; refine zE ?_; refine blk_far ?_ NB101_106.out _; refine zE ?_; refine blk_far ?_ NB101_106.out _; refine zE ?_; refine blk_far ?_ NB101_106.out _; refine zE ?_; refine blk_far ?_ NB101_106.out _; refine zE ?_; exact BK101.out) hb); have n1_ := Zs0.mk (bkB (g := gb106) (o := .cells #[.slice A105_0 ((r47 l0_4 x33_2).f0).length c105_0, .int .i64 ((r47 l0_4 x33_2).f1), .int .i64 ((r47 l0_4 x33_2).f2), .int .i64 ((r47 l0_4 x33_2).f3), .int .i64 ((r47 l0_4 x33_2).f4)] 47 (0, 0)) (by refine zE ?_; refine blk_put (cs := #[.slice A105_0 ((r47 l0_4 x33_2).f0).length c105_0, .int .i64 ((r47 l0_4 x33_2).f1), .int .i64 ((r47 l0_4 x33_2).f2), .int .i64 ((r47 l0_4 x33_2).f3), .int .i64 0]) ?_ 4 _ rfl; refine zE ?_; refine blk_put (cs := #[.slice A105_0 ((r47 l0_4 x33_2).f0).length c105_0, .int .i64 ((r47 l0_4 x33_2).f1), .int .i64 ((r47 l0_4 x33_2).f2), .int .i64 0, .int .i64 0]) ?_ 3 _ rfl; refine zE ?_; refine blk_put (cs := #[.slice A105_0 ((r47 l0_4 x33_2).f0).length c105_0, .int .i64 ((r47 l0_4 x33_2).f1), .int .i64 0, .int .i64 0, .int .i64 0]) ?_ 2 _ rfl; refine zE ?_; refine blk_put (cs := #[.slice A105_0 ((r47 l0_4 x33_2).f0).length c105_0, .int .i64 0, .int .i64 0, .int .i64 0, .int .i64 0]) ?_ 1 _ rfl; refine zE ?_; refine blk_put (cs := #[.slice none 0 0, .int .i64 0, .int .i64 0, .int .i64 0, .int .i64 0]) ?_ 0 _ rfl; refine zE ?_; exact BK106.out) hb); have n2_ := Zs0.mk (blT zB hb); revert n0_ n1_ n2_; clear BK101 BK106 HB; intro BK101 BK106 HB; (try clear hb); (try clear hb2); (try clear hk); (try clear hi)))
        go_roundg k2
        case measure => have := HJ1.out; have := HK2.out; omega
        case rel => exact ⟨(wrap64 (x3_2 + (((r47 l0_4 x33_2).f0).length : Int))), (wrap64 (x33_2 + 1)), zq, zq, H', ⟨by have := HJ1.out; have := HK2.out; omega⟩, ⟨zG BK101.out⟩, ⟨zB⟩⟩
       ·replace c23 := Bool.eq_false_iff.mpr c23
        subst c23
        have H1 : (some false) = some r := by rw [if_neg (show ¬ (false = true) by decide)] at H; exact H
        clear H
        have H := H1
        clear H1
        obtain rfl := Option.some.inj H
        have p105 : 0 ≤ (x33_2 : Int) := zD
        have q105 : x33_2 < (l0_4.length : Int) := zD
        obtain ⟨ad105, A105_0, c105_0, e105, hx105_0, hx105_1, hx105_2, hx105_3, hx105_4, hl105_0, hi105_0⟩ := at_T47 HR0_4.out x33_2 p105 q105
        cases e105
        replace hx105_0 := zx HB.out hx105_0
        replace hx105_1 := zx HB.out hx105_1
        replace hx105_2 := zx HB.out hx105_2
        replace hx105_3 := zx HB.out hx105_3
        replace hx105_4 := zx HB.out hx105_4
        have HR105_0 := Zs0.mk hi105_0
        have HC105_0 := Zs0.mk hl105_0
        clear hi105_0 hl105_0
        replace p105 := eq_true p105
        replace q105 := eq_true q105
        go_wp2_with (first | ((with_reducible refine gtD (N := 5) rfl ?_); (try (refine gate_guard (by rfl) ?_; dsimp only)); refine bxE ?hg (N := 5) ?hd (cs := #[.slice none 0 0, .int .i64 0, .int .i64 0, .int .i64 0, .int .i64 0]) (t := 47) ?hr ?_; (case hd => rfl); (case hg => rfl); (case hr => first | (go_simp; done) | (go_simp; rfl)); intro gb106 hg w29 hbox hb; have n0_ := Zs0.mk (bkB (zG BK101.out) hb); have n1_ := Zs0.mk (blT zB hb); have n2_ := Zs0.mk (hbox); have n3_ := Zs0.mk (zs hg : w.heap.size ≤ gb106); have n4_ := Zs0.mk (zs hg : w.heap.size ≤ gb106); have n5_ := Zs0.mk ((by rw [hg]; exact Nat.ne_of_lt (blk_lt (zG BK101.out)) : gb101 ≠ gb106)); have n6_ := Zs0.mk ((by rw [hg]; exact Nat.ne_of_gt (blk_lt (zG BK101.out)) : gb106 ≠ gb101)); revert n0_ n1_ n2_ n3_ n4_ n5_ n6_; clear BK101 HB; intro BK101 HB BK106 GW106 GE106 NB101_106 NB106_101; clear hb hbox hg; have hnb30 := NB106_101.out; have hnc30 := NB101_106.out; obtain ⟨hcz31_0, hcz31_1, hcz31_2, hcz31_3, hcz31_4, hfz31_0, hfz31_1, hfz31_2, hfz31_3, hfz31_4⟩ := bx5 BK106.out; obtain ⟨hcz32_0, hcz32_1, hcz32_2, hcz32_3, hcz32_4, hfz32_0, hfz32_1, hfz32_2, hfz32_3, hfz32_4⟩ := bx5 BK101.out) | ((with_reducible refine gtC (f := 54) rfl ?_); refine goesL_ (some 44) rfl rfl Try.func54 (by kernel_rfl) rfl #[.agg #[.slice A0_0 l0_0.length c0_0, .int .i64 a0_1, .int .i64 a0_2, .int .i64 a0_3, .slice (some ad105) l0_4.length c0_4], .agg #[.slice A105_0 ((r47 l0_4 x33_2).f0).length c105_0, .int .i64 ((r47 l0_4 x33_2).f1), .int .i64 ((r47 l0_4 x33_2).f2), .int .i64 ((r47 l0_4 x33_2).f3), .int .i64 ((r47 l0_4 x33_2).f4)]] rfl zM ?_; (with_reducible refine (impl_isBlock.calls k2 _ _ l0_0 a0_1 a0_2 a0_3 _ _ l0_4 _ _ ((r47 l0_4 x33_2).f0) ((r47 l0_4 x33_2).f1) ((r47 l0_4 x33_2).f2) ((r47 l0_4 x33_2).f3) ((r47 l0_4 x33_2).f4) false _ ?side1 ?side2 ?side3 ?side4 ?side5 ?side6 A22.out).mono ?_); (case side1 => exact Kd.cB1 HR0_0.out zB); (case side2 => exact HC0_0.out); (case side3 => exact Kd.cB1 HR0_4.out zB); (case side4 => exact HC0_4.out); (case side5 => exact Kd.cB1 HR105_0.out zB); (case side6 => exact HC105_0.out); rintro e w33 ⟨rfl, hb⟩; refine ⟨_, rfl, ?_⟩; have n0_ := Zs0.mk (bkB (g := gb101) (o := .cells #[.slice A0_0 l0_0.length c0_0, .int .i64 a0_1, .int .i64 a0_2, .int .i64 a0_3, .slice (some ad105) l0_4.length c0_4] 29 (0, 0)) (by refine zE ?_; refine blk_far ?_ NB101_106.out _; refine zE ?_; refine blk_far ?_ NB101_106.out _; refine zE ?_; refine blk_far ?_ NB101_106.out _; refine zE ?_; refine blk_far ?_ NB101_106.out _; refine zE ?_; refine blk_far ?_ NB101_106.out _; refine zE ?_; exact BK101.out) hb); have n1_ := Zs0.mk (bkB (g := gb106) (o := .cells #[.slice A105_0 ((r47 l0_4 x33_2).f0).length c105_0, .int .i64 ((r47 l0_4 x33_2).f1), .int .i64 ((r47 l0_4 x33_2).f2), .int .i64 ((r47 l0_4 x33_2).f3), .int .i64 ((r47 l0_4 x33_2).f4)] 47 (0, 0)) (by refine zE ?_; refine blk_put (cs := #[.slice A105_0 ((r47 l0_4 x33_2).f0).length c105_0, .int .i64 ((r47 l0_4 x33_2).f1), .int .i64 ((r47 l0_4 x33_2).f2), .int .i64 ((r47 l0_4 x33_2).f3), .int .i64 0]) ?_ 4 _ rfl; refine zE ?_; refine blk_put (cs := #[.slice A105_0 ((r47 l0_4 x33_2).f0).length c105_0, .int .i64 ((r47 l0_4 x33_2).f1), .int .i64 ((r47 l0_4 x33_2).f2), .int .i64 0, .int .i64 0]) ?_ 3 _ rfl; refine zE ?_; refine blk_put (cs := #[.slice A105_0 ((r47 l0_4 x33_2).f0).length c105_0, .int .i64 ((r47 l0_4 x33_2).f1), .int .i64 0, .int .i64 0, .int .i64 0]) ?_ 2 _ rfl; refine zE ?_; refine blk_put (cs := #[.slice A105_0 ((r47 l0_4 x33_2).f0).length c105_0, .int .i64 0, .int .i64 0, .int .i64 0, .int .i64 0]) ?_ 1 _ rfl; refine zE ?_; refine blk_put (cs := #[.slice none 0 0, .int .i64 0, .int .i64 0, .int .i64 0, .int .i64 0]) ?_ 0 _ rfl; refine zE ?_; exact BK106.out) hb); have n2_ := Zs0.mk (blT zB hb); revert n0_ n1_ n2_; clear BK101 BK106 HB; intro BK101 BK106 HB; (try clear hb); (try clear hb2); (try clear hk); (try clear hi)))
        go_ret
        exact ⟨zr, zB⟩
      ·rw [if_neg c19] at H
       have c19b0 : decide (x33_2 < (l0_4.length : Int)) = false := decide_eq_false c19
       clear c19
       obtain rfl := Option.some.inj H
       go_wp2
       go_ret
       exact ⟨zr, zB⟩

end Go.Proofs.Ytcbpbnkoolpibaa.P
