/- Functions of the program and of the reference as plain functions, and that the Go code comes to their answers; several texts in one. No conditions beyond what each theorem says. -/
import Derived.Test.YtjcggilkfofiaaaDoorMShowExp0a
import Derived.Test.YtjcggilkfofiaaaDoorMShowExpxF21
import Derived.Test.YtjcggilkfofiaaaDoorMShowExpxGisx
import Derived.Test.YtjcggilkfofiaaaDoorMShowExp1a
import Derived.Test.YtjcggilkfofiaaaDoorMShowExp0c
import Derived.Test.YtjcggilkfofiaaaDoorMShowExp0va
namespace Go.Proofs.YtjcggilkfofiaaaDoor.P
open Go.RowKit Go.Proofs.YtjcggilkfofiaaaDoorW.PrintWords Go.Proofs.YtjcggilkfofiaaaDoorW.PrintLast Go.Proofs.YtjcggilkfofiaaaDoorW.PrintMore
attribute [local go_sem] max2_int min2_int max_two min_two max_three min_three max_four min_four   -- for this text's walks alone
set_option linter.unusedVariables false
set_option linter.unusedSimpArgs false

/-! ### impl_ShowExp: function 9 -/
def impl_ShowExp.f (k : Nat) (l0_0 : List Int) (a0_1 : Int) (a0_2 : Int) (l0_3 : List (S61)) (a1_0 : Int) (a1_1 : Int) (a1_2 : Int) (a1_3 : ByteArray) (l1_4 : List (S38)) : Option (ByteArray) := (impl_isExp.f l0_0 a0_1 a0_2 l0_3 a1_0 a1_1 a1_2 a1_3 l1_4 0).bind fun t103 => (if t103 = true then ((impl_showExp.f k a1_0 a1_1 a1_2 a1_3 l1_4).bind fun t104 => (some t104)) else (some (⟨#[]⟩ : ByteArray)))
theorem impl_ShowExp.mono : ∀ a0 a1 a2 a3 a4 a5 a6 a7 a8 k, LeO (impl_ShowExp.f k a0 a1 a2 a3 a4 a5 a6 a7 a8) (impl_ShowExp.f (k + 1) a0 a1 a2 a3 a4 a5 a6 a7 a8) := by
  intro a0 a1 a2 a3 a4 a5 a6 a7 a8 k
  unfold impl_ShowExp.f
  repeat' first
      | (with_reducible exact impl_showExp.mono _ _ _ _ _ _)
      | (with_reducible exact LeO.refl _)
      | (with_reducible exact LeO.none _)
      | (with_reducible refine LeO.ite ?_ ?_)
      | (with_reducible refine LeO.bind ?_ (fun _ => ?_))
      | exact impl_showExp.mono _ _ _ _ _ _
      | exact LeO.none _
      | refine LeO.ite ?_ ?_
      | refine LeO.bind ?_ (fun _ => ?_)
set_option maxHeartbeats 8000000 in
set_option maxRecDepth 100000 in
theorem impl_ShowExp.calls (k : Nat) (A0_0 : Option Addr) (c0_0 : Nat) (l0_0 : List Int) (a0_1 : Int) (a0_2 : Int) (A0_3 : Option Addr) (c0_3 : Nat) (l0_3 : List (S61)) (a1_0 : Int) (a1_1 : Int) (a1_2 : Int) (a1_3 : ByteArray) (A1_4 : Option Addr) (c1_4 : Nat) (l1_4 : List (S38)) (r : ByteArray) (w : World) (hr0_0 : Kd.C (Kd.int .i64) w A0_0 l0_0.length l0_0) (hc0_0 : l0_0.length ≤ c0_0) (hr0_3 : Kd.C k61 w A0_3 l0_3.length l0_3) (hc0_3 : l0_3.length ≤ c0_3) (hr1_4 : Kd.C k38 w A1_4 l1_4.length l1_4) (hc1_4 : l1_4.length ≤ c1_4) (h : impl_ShowExp.f k l0_0 a0_1 a0_2 l0_3 a1_0 a1_1 a1_2 a1_3 l1_4 = some r) (ht : Tab w) :
    Calls Tryd.prog 9 #[.agg #[.slice A0_0 l0_0.length c0_0, .int .i64 a0_1, .int .i64 a0_2, .slice A0_3 l0_3.length c0_3], .agg #[.int .i64 a1_0, .int .i64 a1_1, .int .i64 a1_2, .string a1_3, .slice A1_4 l1_4.length c1_4]] w fun e w' => e = .returned (.string r) ∧ Below w.heap.size w w' := by
  have hu34 := Tryd.underlying34
  have hu38 := Tryd.underlying38
  have HR0_0 := Zs0.mk hr0_0
  have HC0_0 := Zs0.mk hc0_0
  clear hr0_0 hc0_0
  have HR0_3 := Zs0.mk hr0_3
  have HC0_3 := Zs0.mk hc0_3
  clear hr0_3 hc0_3
  have HR1_4 := Zs0.mk hr1_4
  have HC1_4 := Zs0.mk hc1_4
  clear hr1_4 hc1_4
  have HB := Zs0.mk (Below.refl w.heap.size w)
  have HT := Zs0.mk ht
  clear ht
  have H : ((impl_isExp.f l0_0 a0_1 a0_2 l0_3 a1_0 a1_1 a1_2 a1_3 l1_4 0).bind fun t103 => (if t103 = true then ((impl_showExp.f k a1_0 a1_1 a1_2 a1_3 l1_4).bind fun t104 => (some t104)) else (some (⟨#[]⟩ : ByteArray)))) = some r := h
  clear h
  replace H := Option.bind_eq_some_iff.mp H
  obtain ⟨t103, A30, H⟩ := H
  replace H : (if t103 = true then ((impl_showExp.f k a1_0 a1_1 a1_2 a1_3 l1_4).bind fun t104 => (some t104)) else (some (⟨#[]⟩ : ByteArray))) = some r := H
  have A3 := Zs0.mk A30
  clear A30
  by_cases c4 : t103 = true
  · subst c4
    have H1 : ((impl_showExp.f k a1_0 a1_1 a1_2 a1_3 l1_4).bind fun t104 => (some t104)) = some r := by rw [if_pos rfl] at H; exact H
    clear H
    have H := H1
    clear H1
    replace H := Option.bind_eq_some_iff.mp H
    obtain ⟨t104, A50, H⟩ := H
    replace H : (some t104) = some r := H
    have A5 := Zs0.mk A50
    clear A50
    obtain rfl := Option.some.inj H
    go_enter Tryd.func9, Tryd.ntmps9
    go_wp2_with (first | ((with_reducible refine gtD (N := 2) rfl ?_); refine box_event ?hg (N := 2) ?hd (cs := #[.slice A0_0 l0_0.length c0_0, .int .i64 a0_1, .int .i64 a0_2, .slice A0_3 l0_3.length c0_3]) (t := 34) ?hr ?_; (case hd => rfl); (case hg => rfl); (case hr => first | (go_simp; done) | (go_simp; rfl)); intro gb101 hg w6 hbox hb; have n0_ := Zs0.mk (blT (by repeat (first | (with_reducible first | exact HB.out | apply blA | apply pbN | apply bl1) | exact HB.out)) hb); have n1_ := Zs0.mk (hbox); have n2_ := Zs0.mk ((by rw [hg]; exact (blZ (by repeat (first | (with_reducible first | exact HB.out | apply blA | apply pbN | apply bl1) | exact HB.out))) : w.heap.size ≤ gb101)); have n3_ := Zs0.mk ((by rw [hg]; exact (blZ (by repeat (first | (with_reducible first | exact HB.out | apply blA | apply pbN | apply bl1) | exact HB.out))) : w.heap.size ≤ gb101)); clear HB; have HB := n0_; have BK101 := n1_; have GW101 := n2_; have GE101 := n3_; clear n0_ n1_ n2_ n3_; clear hb hbox hg) | ((with_reducible refine gtD (N := 3) rfl ?_); refine box_event ?hg (N := 3) ?hd (cs := #[.int .i64 a1_0, .int .i64 a1_1, .int .i64 a1_2, .string a1_3, .slice A1_4 l1_4.length c1_4]) (t := 38) ?hr ?_; (case hd => rfl); (case hg => rfl); (case hr => first | (go_simp; done) | (go_simp; rfl)); intro gb102 hg w7 hbox hb; have n0_ := Zs0.mk (blk_below (g := gb101) (o := .cells #[.slice A0_0 l0_0.length c0_0, .int .i64 a0_1, .int .i64 a0_2, .slice A0_3 l0_3.length c0_3] 34 (0, 0)) (by (with_reducible repeat (first | refine bkN ?_ _ | refine bk1 ?_ | refine bkA ?_ _)); exact BK101.out) hb); have n1_ := Zs0.mk (blT (by repeat (first | (with_reducible first | exact HB.out | apply blA | apply pbN | apply bl1 | refine blS ?_ GE101.out) | exact HB.out)) hb); have n2_ := Zs0.mk (hbox); have n3_ := Zs0.mk ((by rw [hg]; exact (blZ (by repeat (first | (with_reducible first | exact HB.out | apply blA | apply pbN | apply bl1 | refine blS ?_ GE101.out) | exact HB.out))) : w.heap.size ≤ gb102)); have n4_ := Zs0.mk ((by rw [hg]; exact (blZ (by repeat (first | (with_reducible first | exact HB.out | apply blA | apply pbN | apply bl1 | refine blS ?_ GE101.out) | exact HB.out))) : w.heap.size ≤ gb102)); have n5_ := Zs0.mk ((by rw [hg]; exact Nat.ne_of_lt (blk_lt (g := gb101) (o := .cells #[.slice A0_0 l0_0.length c0_0, .int .i64 a0_1, .int .i64 a0_2, .slice A0_3 l0_3.length c0_3] 34 (0, 0)) (by (with_reducible repeat (first | refine bkN ?_ _ | refine bk1 ?_ | refine bkA ?_ _)); exact BK101.out)) : gb101 ≠ gb102)); have n6_ := Zs0.mk ((by rw [hg]; exact Nat.ne_of_gt (blk_lt (g := gb101) (o := .cells #[.slice A0_0 l0_0.length c0_0, .int .i64 a0_1, .int .i64 a0_2, .slice A0_3 l0_3.length c0_3] 34 (0, 0)) (by (with_reducible repeat (first | refine bkN ?_ _ | refine bk1 ?_ | refine bkA ?_ _)); exact BK101.out)) : gb102 ≠ gb101)); clear BK101; clear HB; have BK101 := n0_; have HB := n1_; have BK102 := n2_; have GW102 := n3_; have GE102 := n4_; have NB101_102 := n5_; have NB102_101 := n6_; clear n0_ n1_ n2_ n3_ n4_ n5_ n6_; clear hb hbox hg; have hnb8 := NB101_102.out; have hnc8 := NB102_101.out; obtain ⟨hcz9_0, hcz9_1, hcz9_2, hcz9_3, hfz9_0, hfz9_1, hfz9_2, hfz9_3⟩ := bx4 BK101.out; obtain ⟨hcz10_0, hcz10_1, hcz10_2, hcz10_3, hcz10_4, hfz10_0, hfz10_1, hfz10_2, hfz10_3, hfz10_4⟩ := bx5 BK102.out) | ((with_reducible refine gtC (f := 20) rfl ?_); refine goesL_ (some 7) rfl rfl Tryd.func20 (by kernel_rfl) rfl #[.agg #[.slice A0_0 l0_0.length c0_0, .int .i64 a0_1, .int .i64 a0_2, .slice A0_3 l0_3.length c0_3], .agg #[.int .i64 a1_0, .int .i64 a1_1, .int .i64 a1_2, .string a1_3, .slice A1_4 l1_4.length c1_4], .int .i64 0] rfl (by (try simp only [List.map_toArray, List.map_cons, List.map_nil]); first | done | rfl | (simp only [List.length_drop, List.length_take]; rfl)) ?_; (with_reducible refine (impl_isExp.calls _ _ l0_0 a0_1 a0_2 _ _ l0_3 a1_0 a1_1 a1_2 a1_3 _ _ l1_4 0 true _ ?side1 ?side2 ?side3 ?side4 ?side5 ?side6 A3.out).mono ?_); (case side1 => repeat (first | exact (Kd.C_below HR0_0.out HB.out) | (with_reducible refine Kd.C_alloc ?_ _) | (with_reducible refine Kd.C_drewN ?_ _) | (with_reducible refine Kd.C_drew ?_))); (case side2 => exact HC0_0.out); (case side3 => repeat (first | exact (Kd.C_below HR0_3.out HB.out) | (with_reducible refine Kd.C_alloc ?_ _) | (with_reducible refine Kd.C_drewN ?_ _) | (with_reducible refine Kd.C_drew ?_))); (case side4 => exact HC0_3.out); (case side5 => repeat (first | exact (Kd.C_below HR1_4.out HB.out) | (with_reducible refine Kd.C_alloc ?_ _) | (with_reducible refine Kd.C_drewN ?_ _) | (with_reducible refine Kd.C_drew ?_))); (case side6 => exact HC1_4.out); rintro e w11 ⟨rfl, hb⟩; refine ⟨_, rfl, ?_⟩; have n0_ := Zs0.mk (blk_below (g := gb101) (o := .cells #[.slice A0_0 l0_0.length c0_0, .int .i64 a0_1, .int .i64 a0_2, .slice A0_3 l0_3.length c0_3] 34 (0, 0)) (by (with_reducible repeat (first | refine bkN ?_ _ | refine bk1 ?_ | refine bkA ?_ _)); exact BK101.out) hb); have n1_ := Zs0.mk (blk_below (g := gb102) (o := .cells #[.int .i64 a1_0, .int .i64 a1_1, .int .i64 a1_2, .string a1_3, .slice A1_4 l1_4.length c1_4] 38 (0, 0)) (by (with_reducible repeat (first | refine bkN ?_ _ | refine bk1 ?_ | refine bkA ?_ _)); exact BK102.out) hb); have n2_ := Zs0.mk (blT (by repeat (first | (with_reducible first | exact HB.out | apply blA | apply pbN | apply bl1 | refine blS ?_ GE101.out | refine blS ?_ GE102.out) | exact HB.out)) hb); clear BK101; clear BK102; clear HB; have BK101 := n0_; have BK102 := n1_; have HB := n2_; clear n0_ n1_ n2_; (try clear hb); (try clear hb2); (try clear hk); (try clear hi); obtain ⟨hcz12_0, hcz12_1, hcz12_2, hcz12_3, hcz12_4, hfz12_0, hfz12_1, hfz12_2, hfz12_3, hfz12_4⟩ := bx5 BK102.out) | ((with_reducible refine gtC (f := 21) rfl ?_); refine goesL_ (some 10) rfl rfl Tryd.func21 (by kernel_rfl) rfl #[.agg #[.int .i64 a1_0, .int .i64 a1_1, .int .i64 a1_2, .string a1_3, .slice A1_4 l1_4.length c1_4]] rfl (by (try simp only [List.map_toArray, List.map_cons, List.map_nil]); first | done | rfl | (simp only [List.length_drop, List.length_take]; rfl)) ?_; (with_reducible refine (impl_showExp.calls k a1_0 a1_1 a1_2 a1_3 _ _ l1_4 t104 _ ?side1 ?side2 A5.out (tabB HT.out (by repeat (first | (with_reducible first | exact HB.out | apply blA | apply pbN | apply bl1 | refine blS ?_ GE101.out | refine blS ?_ GE102.out) | exact HB.out)))).mono ?_); (case side1 => repeat (first | exact (Kd.C_below HR1_4.out HB.out) | (with_reducible refine Kd.C_alloc ?_ _) | (with_reducible refine Kd.C_drewN ?_ _) | (with_reducible refine Kd.C_drew ?_))); (case side2 => exact HC1_4.out); rintro e w13 ⟨rfl, hb⟩; refine ⟨_, rfl, ?_⟩; have n0_ := Zs0.mk (blk_below (g := gb101) (o := .cells #[.slice A0_0 l0_0.length c0_0, .int .i64 a0_1, .int .i64 a0_2, .slice A0_3 l0_3.length c0_3] 34 (0, 0)) (by (with_reducible repeat (first | refine bkN ?_ _ | refine bk1 ?_ | refine bkA ?_ _)); exact BK101.out) hb); have n1_ := Zs0.mk (blk_below (g := gb102) (o := .cells #[.int .i64 a1_0, .int .i64 a1_1, .int .i64 a1_2, .string a1_3, .slice A1_4 l1_4.length c1_4] 38 (0, 0)) (by (with_reducible repeat (first | refine bkN ?_ _ | refine bk1 ?_ | refine bkA ?_ _)); exact BK102.out) hb); have n2_ := Zs0.mk (blT (by repeat (first | (with_reducible first | exact HB.out | apply blA | apply pbN | apply bl1 | refine blS ?_ GE101.out | refine blS ?_ GE102.out) | exact HB.out)) hb); clear BK101; clear BK102; clear HB; have BK101 := n0_; have BK102 := n1_; have HB := n2_; clear n0_ n1_ n2_; (try clear hb); (try clear hb2); (try clear hk); (try clear hi)))
    go_ret
    exact ⟨by first | rfl | (simp [eWn, eWs] <;> rfl) | (simp [*, eWn, eWs] <;> rfl), by repeat (first | (with_reducible first | exact HB.out | apply blA | apply pbN | apply bl1 | refine blS ?_ GE101.out | refine blS ?_ GE102.out) | exact HB.out)⟩
  · replace c4 := Bool.eq_false_iff.mpr c4
    subst c4
    have H1 : (some (⟨#[]⟩ : ByteArray)) = some r := by rw [if_neg (show ¬ (false = true) by decide)] at H; exact H
    clear H
    have H := H1
    clear H1
    obtain rfl := Option.some.inj H
    go_enter Tryd.func9, Tryd.ntmps9
    go_wp2_with (first | ((with_reducible refine gtD (N := 2) rfl ?_); refine box_event ?hg (N := 2) ?hd (cs := #[.slice A0_0 l0_0.length c0_0, .int .i64 a0_1, .int .i64 a0_2, .slice A0_3 l0_3.length c0_3]) (t := 34) ?hr ?_; (case hd => rfl); (case hg => rfl); (case hr => first | (go_simp; done) | (go_simp; rfl)); intro gb101 hg w14 hbox hb; have n0_ := Zs0.mk (blT (by repeat (first | (with_reducible first | exact HB.out | apply blA | apply pbN | apply bl1) | exact HB.out)) hb); have n1_ := Zs0.mk (hbox); have n2_ := Zs0.mk ((by rw [hg]; exact (blZ (by repeat (first | (with_reducible first | exact HB.out | apply blA | apply pbN | apply bl1) | exact HB.out))) : w.heap.size ≤ gb101)); have n3_ := Zs0.mk ((by rw [hg]; exact (blZ (by repeat (first | (with_reducible first | exact HB.out | apply blA | apply pbN | apply bl1) | exact HB.out))) : w.heap.size ≤ gb101)); clear HB; have HB := n0_; have BK101 := n1_; have GW101 := n2_; have GE101 := n3_; clear n0_ n1_ n2_ n3_; clear hb hbox hg) | ((with_reducible refine gtD (N := 3) rfl ?_); refine box_event ?hg (N := 3) ?hd (cs := #[.int .i64 a1_0, .int .i64 a1_1, .int .i64 a1_2, .string a1_3, .slice A1_4 l1_4.length c1_4]) (t := 38) ?hr ?_; (case hd => rfl); (case hg => rfl); (case hr => first | (go_simp; done) | (go_simp; rfl)); intro gb102 hg w15 hbox hb; have n0_ := Zs0.mk (blk_below (g := gb101) (o := .cells #[.slice A0_0 l0_0.length c0_0, .int .i64 a0_1, .int .i64 a0_2, .slice A0_3 l0_3.length c0_3] 34 (0, 0)) (by (with_reducible repeat (first | refine bkN ?_ _ | refine bk1 ?_ | refine bkA ?_ _)); exact BK101.out) hb); have n1_ := Zs0.mk (blT (by repeat (first | (with_reducible first | exact HB.out | apply blA | apply pbN | apply bl1 | refine blS ?_ GE101.out) | exact HB.out)) hb); have n2_ := Zs0.mk (hbox); have n3_ := Zs0.mk ((by rw [hg]; exact (blZ (by repeat (first | (with_reducible first | exact HB.out | apply blA | apply pbN | apply bl1 | refine blS ?_ GE101.out) | exact HB.out))) : w.heap.size ≤ gb102)); have n4_ := Zs0.mk ((by rw [hg]; exact (blZ (by repeat (first | (with_reducible first | exact HB.out | apply blA | apply pbN | apply bl1 | refine blS ?_ GE101.out) | exact HB.out))) : w.heap.size ≤ gb102)); have n5_ := Zs0.mk ((by rw [hg]; exact Nat.ne_of_lt (blk_lt (g := gb101) (o := .cells #[.slice A0_0 l0_0.length c0_0, .int .i64 a0_1, .int .i64 a0_2, .slice A0_3 l0_3.length c0_3] 34 (0, 0)) (by (with_reducible repeat (first | refine bkN ?_ _ | refine bk1 ?_ | refine bkA ?_ _)); exact BK101.out)) : gb101 ≠ gb102)); have n6_ := Zs0.mk ((by rw [hg]; exact Nat.ne_of_gt (blk_lt (g := gb101) (o := .cells #[.slice A0_0 l0_0.length c0_0, .int .i64 a0_1, .int .i64 a0_2, .slice A0_3 l0_3.length c0_3] 34 (0, 0)) (by (with_reducible repeat (first | refine bkN ?_ _ | refine bk1 ?_ | refine bkA ?_ _)); exact BK101.out)) : gb102 ≠ gb101)); clear BK101; clear HB; have BK101 := n0_; have HB := n1_; have BK102 := n2_; have GW102 := n3_; have GE102 := n4_; have NB101_102 := n5_; have NB102_101 := n6_; clear n0_ n1_ n2_ n3_ n4_ n5_ n6_; clear hb hbox hg; have hnb16 := NB101_102.out; have hnc16 := NB102_101.out; obtain ⟨hcz17_0, hcz17_1, hcz17_2, hcz17_3, hfz17_0, hfz17_1, hfz17_2, hfz17_3⟩ := bx4 BK101.out; obtain ⟨hcz18_0, hcz18_1, hcz18_2, hcz18_3, hcz18_4, hfz18_0, hfz18_1, hfz18_2, hfz18_3, hfz18_4⟩ := bx5 BK102.out) | ((with_reducible refine gtC (f := 20) rfl ?_); refine goesL_ (some 7) rfl rfl Tryd.func20 (by kernel_rfl) rfl #[.agg #[.slice A0_0 l0_0.length c0_0, .int .i64 a0_1, .int .i64 a0_2, .slice A0_3 l0_3.length c0_3], .agg #[.int .i64 a1_0, .int .i64 a1_1, .int .i64 a1_2, .string a1_3, .slice A1_4 l1_4.length c1_4], .int .i64 0] rfl (by (try simp only [List.map_toArray, List.map_cons, List.map_nil]); first | done | rfl | (simp only [List.length_drop, List.length_take]; rfl)) ?_; (with_reducible refine (impl_isExp.calls _ _ l0_0 a0_1 a0_2 _ _ l0_3 a1_0 a1_1 a1_2 a1_3 _ _ l1_4 0 false _ ?side1 ?side2 ?side3 ?side4 ?side5 ?side6 A3.out).mono ?_); (case side1 => repeat (first | exact (Kd.C_below HR0_0.out HB.out) | (with_reducible refine Kd.C_alloc ?_ _) | (with_reducible refine Kd.C_drewN ?_ _) | (with_reducible refine Kd.C_drew ?_))); (case side2 => exact HC0_0.out); (case side3 => repeat (first | exact (Kd.C_below HR0_3.out HB.out) | (with_reducible refine Kd.C_alloc ?_ _) | (with_reducible refine Kd.C_drewN ?_ _) | (with_reducible refine Kd.C_drew ?_))); (case side4 => exact HC0_3.out); (case side5 => repeat (first | exact (Kd.C_below HR1_4.out HB.out) | (with_reducible refine Kd.C_alloc ?_ _) | (with_reducible refine Kd.C_drewN ?_ _) | (with_reducible refine Kd.C_drew ?_))); (case side6 => exact HC1_4.out); rintro e w19 ⟨rfl, hb⟩; refine ⟨_, rfl, ?_⟩; have n0_ := Zs0.mk (blk_below (g := gb101) (o := .cells #[.slice A0_0 l0_0.length c0_0, .int .i64 a0_1, .int .i64 a0_2, .slice A0_3 l0_3.length c0_3] 34 (0, 0)) (by (with_reducible repeat (first | refine bkN ?_ _ | refine bk1 ?_ | refine bkA ?_ _)); exact BK101.out) hb); have n1_ := Zs0.mk (blk_below (g := gb102) (o := .cells #[.int .i64 a1_0, .int .i64 a1_1, .int .i64 a1_2, .string a1_3, .slice A1_4 l1_4.length c1_4] 38 (0, 0)) (by (with_reducible repeat (first | refine bkN ?_ _ | refine bk1 ?_ | refine bkA ?_ _)); exact BK102.out) hb); have n2_ := Zs0.mk (blT (by repeat (first | (with_reducible first | exact HB.out | apply blA | apply pbN | apply bl1 | refine blS ?_ GE101.out | refine blS ?_ GE102.out) | exact HB.out)) hb); clear BK101; clear BK102; clear HB; have BK101 := n0_; have BK102 := n1_; have HB := n2_; clear n0_ n1_ n2_; (try clear hb); (try clear hb2); (try clear hk); (try clear hi)))
    go_ret
    exact ⟨by first | rfl | (simp [eWn, eWs] <;> rfl) | (simp [*, eWn, eWs] <;> rfl), by repeat (first | (with_reducible first | exact HB.out | apply blA | apply pbN | apply bl1 | refine blS ?_ GE101.out | refine blS ?_ GE102.out) | exact HB.out)⟩

end Go.Proofs.YtjcggilkfofiaaaDoor.P
namespace Go.Proofs.YtjcggilkfofiaaaDoor.Ex
open Go.RowKit Go.Proofs.YtjcggilkfofiaaaDoor.P Go.Proofs.YtjcggilkfofiaaaDoorW.PrintWords Go.Proofs.YtjcggilkfofiaaaDoorW.PrintLast Go.Proofs.YtjcggilkfofiaaaDoor.Aux Go.Proofs.YtjcggilkfofiaaaDoor.Dec
set_option linter.unusedVariables false
set_option linter.unusedSimpArgs false
theorem bz_loop (s : ByteArray) : ∀ (d i : Nat) (r : List UInt8), i + d = s.size → ByteArray.toList.loop s i r = r.reverse ++ s.data.toList.drop i := by
  intro d
  induction d with
  | zero =>
    intro i r h
    rw [ByteArray.toList.loop, if_neg (by omega), List.drop_eq_nil_of_le (by rw [Array.length_toList]; show s.size ≤ i; omega), List.append_nil]
  | succ d ih =>
    intro i r h
    have hi : i < s.data.toList.length := by rw [Array.length_toList]; show i < s.size; omega
    rw [ByteArray.toList.loop, if_pos (by omega), ih (i + 1) _ (by omega), List.drop_eq_getElem_cons hi, List.reverse_cons, List.append_assoc]
    have : s.get! i = s.data.toList[i] := by
      rw [ByteArray.get!, Array.getElem_toList]
      exact getElem!_pos s.data i (by simpa using hi)
    rw [this]
    rfl
theorem bz_len (s : ByteArray) : s.toList.length = s.size := by
  rw [ByteArray.toList, bz_loop s s.size 0 [] (by omega), List.reverse_nil, List.nil_append, List.drop_zero, Array.length_toList]
  rfl
theorem has_l0 (xs : List ByteArray) (s : ByteArray) (hn : xs.length < 9223372036854775807) (d : Nat) : ∀ i : Nat, i + d = xs.length → Ev (fun k => spec_l01Has.l0 k xs s (i : Int)) ((xs.drop i).any fun x => x.toList = s.toList) := by
  induction d with
  | zero =>
    intro i hi
    refine Ev.step (fun k => by rw [spec_l01Has.l0, if_neg (by omega)]) ?_
    rw [List.drop_eq_nil_of_le (by omega)]
    exact Ev.now _
  | succ d ih =>
    intro i hi
    have hd : xs.drop i = xs[i]'(by omega) :: xs.drop (i + 1) := List.drop_eq_getElem_cons (by omega)
    have hr := rdOf_lt ByteArray.empty xs i (by omega)
    by_cases h : (xs[i]'(by omega)).toList = s.toList
    · refine Ev.step (f := fun _ => some true) (fun k => by rw [spec_l01Has.l0, if_pos (by omega), if_pos (by omega), hr, if_pos h]) ?_
      rw [hd, List.any_cons]
      simp only [h, decide_true, Bool.true_or]
      exact Ev.now _
    · refine Ev.step (fun k => by rw [spec_l01Has.l0, if_pos (by omega), if_pos (by omega), hr, if_neg h, wrap_ok (by omega) (by omega)]) ?_
      rw [hd, List.any_cons]
      simp only [h, decide_false, Bool.false_or]
      exact ih (i + 1) (by omega)
theorem has_f (xs : List ByteArray) (s : ByteArray) (hn : xs.length < 9223372036854775807) : Ev (fun k => spec_l01Has.f k xs s) (xs.any fun x => x.toList = s.toList) := has_l0 xs s hn xs.length 0 (by omega)
theorem nEs_at : ∀ (l : List S38) (k : Nat) (h : k < l.length), nE l[k] ≤ nEs l
  | x :: xs, 0, h => by simp [nEs]
  | x :: xs, k + 1, h => by
    have := nEs_at xs k (by simpa using h)
    simp only [nEs, List.getElem_cons_succ]
    omega
theorem sign_size {t : ByteArray} (h : signB t = true) : t.size ≤ 2 := by
  obtain ⟨x, hx, he⟩ := List.any_eq_true.1 h
  have he := of_decide_eq_true he
  rw [← bz_len t, ← he, bz_len x]
  simp only [signs, List.mem_cons, List.not_mem_nil, or_false] at hx
  rcases hx with rfl | rfl | rfl | rfl | rfl | rfl <;> decide
/-- What the reference asks last of an expression itself. -/
def finX (z v k n b : Int) (t : ByteArray) (len : Nat) : Bool :=
  if k = 0 then decide ((len : Int) = 0) && inR n 0 999999999
  else if k = 1 then decide ((len : Int) = 0) && (decide (0 ≤ n) && decide (n < v))
  else if k = 2 then decide ((len : Int) = 1) && (inR n 0 (z - 1) && (decide (-1 ≤ b) && (decide (b = -1) || decide (b < v))))
  else if k = 3 then decide ((len : Int) = 2) && (decide (n = 0) && signB t)
  else if k = 4 then decide ((len : Int) = 0) && decide (n = 0)
  else false
theorem l01In_f (x a b : Int) : spec_l01In.f x a b = some (inR x a b) := by
  unfold spec_l01In.f inR
  by_cases h : x ≥ a
  · rw [if_pos h, decide_eq_true (show a ≤ x from h), Bool.true_and]
  · rw [if_neg h, decide_eq_false (show ¬ a ≤ x from h), Bool.false_and]
theorem at_f (zs : List Int) (p v : Int) (body : List S61) (n b : Int) (hz : zs.length ≤ 9223372036854775807) : spec_l02At.f zs p v body n b = some (inR n 0 ((zs.length : Int) - 1) && (decide (-1 ≤ b) && (decide (b = -1) || decide (b < v)))) := by
  unfold spec_l02At.f
  rw [l01In_f, Option.bind_some, wrap_ok (by omega) (by omega)]
  cases inR n 0 ((zs.length : Int) - 1) with
  | false => rw [if_neg (by simp)]; rfl
  | true =>
    rw [if_pos rfl, Bool.true_and]
    by_cases h1 : b ≥ -1
    · rw [if_pos h1, decide_eq_true (show -1 ≤ b from h1), Bool.true_and]
      by_cases h2 : b = -1
      · rw [if_pos h2, decide_eq_true h2, Bool.true_or]
      · rw [if_neg h2, decide_eq_false h2, Bool.false_or]
    · rw [if_neg h1, decide_eq_false (show ¬ -1 ≤ b from h1), Bool.false_and]
section
variable (zs : List Int) (p v : Int) (body : List S61) (hz : zs.length ≤ 1048576)
include hz
theorem last_ev (k n b : Int) (t : ByteArray) (l : List S38) (x2 i : Int) (hi : ¬ i < (l.length : Int)) : Ev (fun r => spec_l02ExpOk.l0 r x2 i zs p v body k n b t l) (finX (zs.length : Int) v k n b t l.length) := by
  unfold finX
  by_cases e0 : k = 0
  · rw [if_pos e0]
    by_cases h : (l.length : Int) = 0
    · rw [decide_eq_true h, Bool.true_and]
      exact Ev.step (f := fun _ => some _) (fun r => by rw [spec_l02ExpOk.l0, if_neg hi, if_pos e0, if_pos h, l01In_f, Option.bind_some]) (Ev.now _)
    · rw [decide_eq_false h, Bool.false_and]
      exact Ev.step (f := fun _ => some _) (fun r => by rw [spec_l02ExpOk.l0, if_neg hi, if_pos e0, if_neg h]) (Ev.now _)
  rw [if_neg e0]
  by_cases e1 : k = 1
  · rw [if_pos e1]
    by_cases h : (l.length : Int) = 0
    · rw [decide_eq_true h, Bool.true_and]
      by_cases g : n ≥ 0
      · rw [decide_eq_true (show 0 ≤ n from g), Bool.true_and]
        exact Ev.step (f := fun _ => some _) (fun r => by rw [spec_l02ExpOk.l0, if_neg hi, if_neg e0, if_pos e1, if_pos h, if_pos g]) (Ev.now _)
      · rw [decide_eq_false (show ¬ 0 ≤ n from g), Bool.false_and]
        exact Ev.step (f := fun _ => some _) (fun r => by rw [spec_l02ExpOk.l0, if_neg hi, if_neg e0, if_pos e1, if_pos h, if_neg g]) (Ev.now _)
    · rw [decide_eq_false h, Bool.false_and]
      exact Ev.step (f := fun _ => some _) (fun r => by rw [spec_l02ExpOk.l0, if_neg hi, if_neg e0, if_pos e1, if_neg h]) (Ev.now _)
  rw [if_neg e1]
  by_cases e2 : k = 2
  · rw [if_pos e2]
    by_cases h : (l.length : Int) = 1
    · rw [decide_eq_true h, Bool.true_and]
      exact Ev.step (f := fun _ => some _) (fun r => by rw [spec_l02ExpOk.l0, if_neg hi, if_neg e0, if_neg e1, if_pos e2, if_pos h, at_f zs p v body n b (by omega), Option.bind_some]) (Ev.now _)
    · rw [decide_eq_false h, Bool.false_and]
      exact Ev.step (f := fun _ => some _) (fun r => by rw [spec_l02ExpOk.l0, if_neg hi, if_neg e0, if_neg e1, if_pos e2, if_neg h]) (Ev.now _)
  rw [if_neg e2]
  by_cases e3 : k = 3
  · rw [if_pos e3]
    by_cases h : (l.length : Int) = 2
    · rw [decide_eq_true h, Bool.true_and]
      by_cases g : n = 0
      · rw [decide_eq_true g, Bool.true_and]
        refine Ev.step (fun r => by rw [spec_l02ExpOk.l0, if_neg hi, if_neg e0, if_neg e1, if_neg e2, if_pos e3, if_pos h, if_pos g]) ?_
        exact Ev.bind (has_f signs t (by simp [signs])) (Ev.now _)
      · rw [decide_eq_false g, Bool.false_and]
        exact Ev.step (f := fun _ => some _) (fun r => by rw [spec_l02ExpOk.l0, if_neg hi, if_neg e0, if_neg e1, if_neg e2, if_pos e3, if_pos h, if_neg g]) (Ev.now _)
    · rw [decide_eq_false h, Bool.false_and]
      exact Ev.step (f := fun _ => some _) (fun r => by rw [spec_l02ExpOk.l0, if_neg hi, if_neg e0, if_neg e1, if_neg e2, if_pos e3, if_neg h]) (Ev.now _)
  rw [if_neg e3]
  by_cases e4 : k = 4
  · rw [if_pos e4]
    by_cases h : (l.length : Int) = 0
    · rw [decide_eq_true h, Bool.true_and]
      exact Ev.step (f := fun _ => some _) (fun r => by rw [spec_l02ExpOk.l0, if_neg hi, if_neg e0, if_neg e1, if_neg e2, if_neg e3, if_pos e4, if_pos h, show (n == 0) = decide (n = 0) from rfl]) (Ev.now _)
    · rw [decide_eq_false h, Bool.false_and]
      exact Ev.step (f := fun _ => some _) (fun r => by rw [spec_l02ExpOk.l0, if_neg hi, if_neg e0, if_neg e1, if_neg e2, if_neg e3, if_pos e4, if_neg h]) (Ev.now _)
  rw [if_neg e4]
  exact Ev.step (f := fun _ => some _) (fun r => by rw [spec_l02ExpOk.l0, if_neg hi, if_neg e0, if_neg e1, if_neg e2, if_neg e3, if_neg e4]) (Ev.now _)
/-- What is asked first. -/
def preX (k b : Int) (t : ByteArray) : Bool := (decide (k = 2) || decide (b = 0)) && (decide (k = 3) || (t.toList == []))
omit hz in
theorem pre_fin (z d : Int) (k n b : Int) (t : ByteArray) (l : List S38) (hd : d ≤ 30) : okX z v d ⟨k, n, b, t, l⟩ = (preX k b t && (okXs z v (d + 1) l && finX z v k n b t l.length)) := by
  rw [okX_eq]
  show (headX z v k n b t && decide (d ≤ 30) && decide ((l.length : Int) = kidX k) && okXs z v (d + 1) l) = _
  rw [decide_eq_true hd, Bool.and_true]
  unfold preX headX finX kidX txE baseB
  generalize okXs z v (d + 1) l = Q
  generalize (l.length : Int) = m
  generalize inR n 0 999999999 = I1
  generalize inR n 0 (z - 1) = I2
  generalize signB t = S
  cases T : (t.toList == [])
  all_goals
    by_cases e0 : k = 0
    · subst e0
      cases Q <;> cases I1 <;> by_cases hb : b = 0 <;> by_cases hm : m = 0 <;> simp [hb, hm]
    by_cases e1 : k = 1
    · subst e1
      cases Q <;> by_cases hb : b = 0 <;> by_cases hm : m = 0 <;> simp [hb, hm]
    by_cases e2 : k = 2
    · subst e2
      cases Q <;> cases I2 <;> by_cases hm : m = 1 <;> simp [hm]
      try (by_cases h1 : b = -1 <;> by_cases h2 : 0 ≤ b <;> by_cases h3 : b < v <;> by_cases h4 : -1 ≤ b <;> simp [h1, h2, h3, h4] <;> omega)
    by_cases e3 : k = 3
    · subst e3
      cases Q <;> cases S <;> by_cases hb : b = 0 <;> by_cases hn : n = 0 <;> by_cases hm : m = 2 <;> simp [hb, hn, hm]
    by_cases e4 : k = 4
    · subst e4
      cases Q <;> by_cases hb : b = 0 <;> by_cases hn : n = 0 <;> by_cases hm : m = 0 <;> simp [hb, hn, hm]
    simp [e0, e1, e2, e3, e4]
theorem expOk_ev : ∀ (m : Nat) (x : S38), SizeOf.sizeOf x < m → nE x ≤ 4611686018427387904 → ∀ d : Int, 0 ≤ d → d ≤ 31 → Ev (fun r => spec_l02ExpOk.f r zs p v body x.f0 x.f1 x.f2 x.f3 x.f4 (30 - d)) (okX (zs.length : Int) v d x)
  | 0, x, h, _, _, _, _ => absurd h (Nat.not_lt_zero _)
  | m + 1, ⟨k, n, b, t, l⟩, h, hN, d, h0, h1 => by
    have hnl := nEs_len l
    rw [nE_eq] at hN
    dsimp only at hN ⊢
    by_cases hd : d = 31
    · have hv : okX (zs.length : Int) v d ⟨k, n, b, t, l⟩ = false := by
        rw [okX_eq]
        show (_ && decide (d ≤ 30) && _ && _) = _
        rw [decide_eq_false (by omega), Bool.and_false, Bool.false_and, Bool.false_and]
      rw [hv]
      refine Ev.step (fun r => by rw [spec_l02ExpOk.f, if_pos (by omega)]) ?_
      exact Ev.step (f := fun _ => some false) (fun r => by rw [spec_l02ExpOk.j0, if_pos rfl]) (Ev.now _)
    have hl : Ev (fun r => spec_l02ExpOk.l0 r (30 - d) 0 zs p v body k n b t l) (okXs (zs.length : Int) v (d + 1) l && finX (zs.length : Int) v k n b t l.length) := by
      have key : ∀ (e i : Nat), i + e = l.length → Ev (fun r => spec_l02ExpOk.l0 r (30 - d) (i : Int) zs p v body k n b t l) (okXs (zs.length : Int) v (d + 1) (l.drop i) && finX (zs.length : Int) v k n b t l.length) := by
        intro e
        induction e with
        | zero =>
          intro i hi
          rw [List.drop_eq_nil_of_le (by omega), okXs, Bool.true_and]
          exact last_ev zs p v body hz k n b t l (30 - d) (i : Int) (by omega)
        | succ e ih =>
          intro i hi
          have hi' : i < l.length := by omega
          have hr := rd_IE l i hi'
          have hw : wrap64 (30 - d - 1) = 30 - (d + 1) := by rw [wrap_ok (by omega) (by omega)]; omega
          have hw2 : wrap64 ((i : Int) + 1) = ((i + 1 : Nat) : Int) := by rw [wrap_ok (by omega) (by omega)]; omega
          have hnt := nEs_at l i hi'
          have hk := expOk_ev m l[i] (by have := kid_lt (x := ⟨k, n, b, t, l⟩) (List.getElem_mem hi'); omega) (by omega) (d + 1) (by omega) (by omega)
          rw [List.drop_eq_getElem_cons hi', okXs]
          cases hq : okX (zs.length : Int) v (d + 1) l[i] with
          | false =>
            rw [hq] at hk
            rw [Bool.false_and, Bool.false_and]
            refine Ev.step (fun r => by rw [spec_l02ExpOk.l0, if_pos (by omega), if_pos (by omega), hr, hw]) ?_
            exact Ev.bind hk (Ev.ite_neg (by simp) (Ev.now _))
          | true =>
            rw [hq] at hk
            rw [Bool.true_and]
            refine Ev.step (fun r => by rw [spec_l02ExpOk.l0, if_pos (by omega), if_pos (by omega), hr, hw, hw2]) ?_
            exact Ev.bind hk (Ev.ite_pos rfl (ih (i + 1) (by omega)))
      have := key l.length 0 (by omega)
      rwa [List.drop_zero] at this
    have hj : ∀ B : Bool, Ev (fun r => spec_l02ExpOk.j0 r (30 - d) B zs p v body k n b t l) (!B && (okXs (zs.length : Int) v (d + 1) l && finX (zs.length : Int) v k n b t l.length)) := fun B => by
      cases B with
      | true => exact Ev.step (f := fun _ => some false) (fun r => by rw [spec_l02ExpOk.j0, if_pos rfl]) (Ev.now _)
      | false =>
        rw [Bool.not_false, Bool.true_and]
        exact Ev.step (fun r => by rw [spec_l02ExpOk.j0, if_neg (by simp)]) hl
    rw [pre_fin v (zs.length : Int) d k n b t l (by omega)]
    have hT : (t.toList != ([] : List UInt8)) = !(t.toList == ([] : List UInt8)) := rfl
    unfold preX
    by_cases e2 : k = 2
    · have e3 : ¬ k = 3 := by omega
      have := hj (t.toList != ([] : List UInt8))
      rw [hT, Bool.not_not] at this
      rw [decide_eq_true e2, decide_eq_false e3, Bool.true_or, Bool.true_and, Bool.false_or]
      exact Ev.step (fun r => by rw [spec_l02ExpOk.f, if_neg (by omega), if_pos e2, if_neg e3, hT]) this
    · rw [decide_eq_false e2, Bool.false_or]
      by_cases hb : b = 0
      · rw [decide_eq_true hb, Bool.true_and]
        by_cases e3 : k = 3
        · rw [decide_eq_true e3, Bool.true_or]
          exact Ev.step (fun r => by rw [spec_l02ExpOk.f, if_neg (by omega), if_neg e2, if_pos hb, if_pos e3]) (hj false)
        · have := hj (t.toList != ([] : List UInt8))
          rw [hT, Bool.not_not] at this
          rw [decide_eq_false e3, Bool.false_or]
          exact Ev.step (fun r => by rw [spec_l02ExpOk.f, if_neg (by omega), if_neg e2, if_pos hb, if_neg e3, hT]) this
      · rw [decide_eq_false hb, Bool.false_and, Bool.false_and]
        exact Ev.step (fun r => by rw [spec_l02ExpOk.f, if_neg (by omega), if_neg e2, if_neg hb]) (hj true)
end
end Go.Proofs.YtjcggilkfofiaaaDoor.Ex
namespace Go.Proofs.YtjcggilkfofiaaaDoor.Ex
open Go.RowKit Go.Proofs.YtjcggilkfofiaaaDoor.P Go.Proofs.YtjcggilkfofiaaaDoorW.PrintWords Go.Proofs.YtjcggilkfofiaaaDoorW.PrintLast Go.Proofs.YtjcggilkfofiaaaDoor.Aux Go.Proofs.YtjcggilkfofiaaaDoor.Dec
set_option linter.unusedVariables false
set_option linter.unusedSimpArgs false
def memT (n b : Int) : ByteArray := if b ≥ 0 then (((⟨#[114]⟩ : ByteArray) ++ dt n) ++ (⟨#[43, 118]⟩ : ByteArray)) ++ dt b else (⟨#[114]⟩ : ByteArray) ++ dt n
theorem memT_size {n b : Int} (hn : I64 n) (hb : I64 b) : (memT n b).size ≤ 45 := by
  have h1 := dt_size hn
  have h2 := dt_size hb
  unfold memT
  split
  · simp only [ByteArray.size_append, lit1, lit2]
    omega
  · simp only [ByteArray.size_append, lit1]
    omega
theorem mem_s {n b : Int} (hn : I64 n) (hb : I64 b) : Ev (fun k => spec_l02Mem.f k n b) (memT n b) := by
  have h1 := dt_size hn
  have h2 := dt_size hb
  unfold spec_l02Mem.f memT
  refine Ev.bind (dt_ev hn) (Ev.ite_pos (by omega) ?_)
  by_cases h : b ≥ 0
  · rw [if_pos h]
    exact Ev.ite_pos h (Ev.ite_pos (by simp only [ByteArray.size_append, lit1]; omega) (Ev.bind (dt_ev hb) (Ev.ite_pos (by simp only [ByteArray.size_append, lit1, lit2]; omega) (Ev.now _))))
  · rw [if_neg h]
    exact Ev.ite_neg h (Ev.now _)
theorem mem_i {n b : Int} (hn : I64 n) (hb : I64 b) : impl_place.f n b = some (memT n b) := by
  have h1 := dt_size hn
  have h2 := dt_size hb
  unfold impl_place.f memT
  rw [dt_f hn, Option.bind_some, if_pos (by omega)]
  by_cases h : b ≥ 0
  · rw [if_pos h, if_pos h, dt_f hb, Option.bind_some, if_pos (by omega), if_pos (by simp only [ByteArray.size_append, lit1, lit2]; omega)]
    simp only [ByteArray.append_assoc]
  · rw [if_neg h, if_neg h]
theorem inR_iff {x a b : Int} (h : inR x a b = true) : a ≤ x ∧ x ≤ b := by
  unfold inR at h
  simpa using h
theorem show_ev (z v : Int) (hz : z ≤ 4611686018427387904) (hv : v ≤ 9223372036854775807) : ∀ (m : Nat) (x : S38), SizeOf.sizeOf x < m → nE x ≤ 1099511627776 → ∀ d : Int, okX z v d x = true →
    ∃ r, Ev (fun k => spec_l02Show.f k x.f0 x.f1 x.f2 x.f3 x.f4) r ∧ Ev (fun k => impl_showExp.f k x.f0 x.f1 x.f2 x.f3 x.f4) r ∧ r.size ≤ 60 * nE x
  | 0, x, h, _, _, _ => absurd h (Nat.not_lt_zero _)
  | m + 1, ⟨k, n, b, t, l⟩, h, hN, d, ho => by
    rw [okX_eq] at ho
    have ho : (headX z v k n b t && decide (d ≤ 30) && decide ((l.length : Int) = kidX k) && okXs z v (d + 1) l) = true := ho
    simp only [Bool.and_eq_true, decide_eq_true_eq] at ho
    obtain ⟨⟨⟨hh, _⟩, hl⟩, hs⟩ := ho
    rw [nE_eq] at hN ⊢
    dsimp only at hN ⊢
    have hkid : ∀ y ∈ l, ∃ r, Ev (fun k => spec_l02Show.f k y.f0 y.f1 y.f2 y.f3 y.f4) r ∧ Ev (fun k => impl_showExp.f k y.f0 y.f1 y.f2 y.f3 y.f4) r ∧ r.size ≤ 60 * nE y := fun y hy => by
      obtain ⟨i, hi, rfl⟩ := List.getElem_of_mem hy
      have hn := nEs_at l i hi
      rw [okXs_all, List.all_eq_true] at hs
      exact show_ev z v hz hv m l[i] (by have := kid_lt (x := ⟨k, n, b, t, l⟩) hy; omega) (by omega) (d + 1) (hs _ hy)
    unfold headX at hh
    by_cases e0 : k = 0
    · rw [if_pos e0] at hh
      simp only [Bool.and_eq_true] at hh
      have hn := inR_iff hh.2
      have hi : I64 n := ⟨by omega, by omega⟩
      have h1 := dt_size hi
      exact ⟨dt n, Ev.step (fun k => by rw [spec_l02Show.f, if_pos e0]) (Ev.bind (dt_ev hi) (Ev.now _)), Ev.step (f := fun _ => some (dt n)) (fun k => by rw [impl_showExp.f, if_pos e0, dt_f hi, Option.bind_some]) (Ev.now _), by omega⟩
    rw [if_neg e0] at hh
    by_cases e1 : k = 1
    · rw [if_pos e1] at hh
      simp only [Bool.and_eq_true, decide_eq_true_eq] at hh
      have hi : I64 n := ⟨by omega, by omega⟩
      have h1 := dt_size hi
      refine ⟨(⟨#[118]⟩ : ByteArray) ++ dt n, ?_, ?_, ?_⟩
      · refine Ev.step (fun k => by rw [spec_l02Show.f, if_neg e0, if_pos e1]) ?_
        exact Ev.bind (dt_ev hi) (Ev.ite_pos (by omega) (Ev.now _))
      · refine Ev.step (f := fun _ => some _) (fun k => by rw [impl_showExp.f, if_neg e0, if_pos e1, dt_f hi, Option.bind_some, if_pos (by omega)]) (Ev.now _)
      · simp only [ByteArray.size_append, lit1]
        omega
    rw [if_neg e1] at hh
    by_cases e2 : k = 2
    · rw [if_pos e2] at hh
      simp only [Bool.and_eq_true] at hh
      have hn := inR_iff hh.1.2
      have hb : b = -1 ∨ (0 ≤ b ∧ b < v) := by
        have := hh.2
        unfold baseB at this
        simpa using this
      have hi : I64 n := ⟨by omega, by omega⟩
      have hj : I64 b := ⟨by omega, by omega⟩
      have hms := memT_size hi hj
      rw [e2, show kidX 2 = 1 from rfl] at hl
      rcases l with _ | ⟨x0, _ | ⟨x1, xs⟩⟩
      · simp at hl
      · obtain ⟨r, g1, g2, g3⟩ := hkid x0 (by simp)
        have hne : nEs [x0] = nE x0 := by simp [nEs]
        rw [hne] at hN ⊢
        refine ⟨((memT n b ++ (⟨#[91]⟩ : ByteArray)) ++ r) ++ (⟨#[93]⟩ : ByteArray), ?_, ?_, ?_⟩
        · refine Ev.step (fun k => by rw [spec_l02Show.f, if_neg e0, if_neg e1, if_pos e2]) ?_
          exact Ev.bind (mem_s hi hj) (Ev.ite_pos (by omega) (Ev.ite_pos (by simp) (Ev.bind g1 (Ev.ite_pos (by simp only [ByteArray.size_append, lit1]; omega) (Ev.ite_pos (by simp only [ByteArray.size_append, lit1]; omega) (Ev.now _))))))
        · refine Ev.step (fun k => by rw [impl_showExp.f, if_neg e0, if_neg e1, if_pos e2, mem_i hi hj, Option.bind_some]) ?_
          exact Ev.ite_pos (by omega) (Ev.ite_pos (by simp) (Ev.bind g2 (Ev.ite_pos (by simp only [ByteArray.size_append, lit1]; omega) (Ev.ite_pos (by simp only [ByteArray.size_append, lit1]; omega) (Ev.now _)))))
        simp only [ByteArray.size_append, lit1]
        omega
      · simp at hl
        omega
    rw [if_neg e2] at hh
    by_cases e3 : k = 3
    · rw [if_pos e3] at hh
      simp only [Bool.and_eq_true] at hh
      have ht := sign_size hh.1.1
      rw [e3, show kidX 3 = 2 from rfl] at hl
      rcases l with _ | ⟨x0, _ | ⟨x1, _ | ⟨x2, xs⟩⟩⟩
      · simp at hl
      · simp at hl
      · obtain ⟨r0, g1, g2, g3⟩ := hkid x0 (by simp)
        obtain ⟨r1, k1, k2, k3⟩ := hkid x1 (by simp)
        have hne : nEs [x0, x1] = nE x0 + nE x1 := by simp [nEs]
        rw [hne] at hN ⊢
        refine ⟨((((((⟨#[40]⟩ : ByteArray) ++ r0) ++ (⟨#[32]⟩ : ByteArray)) ++ t) ++ (⟨#[32]⟩ : ByteArray)) ++ r1) ++ (⟨#[41]⟩ : ByteArray), ?_, ?_, ?_⟩
        · refine Ev.step (fun k => by rw [spec_l02Show.f, if_neg e0, if_neg e1, if_neg e2, if_pos e3]) ?_
          exact (Ev.ite_pos (by simp) (Ev.bind g1 (Ev.ite_pos (by omega) (Ev.ite_pos (by simp only [ByteArray.size_append, lit1]; omega) (Ev.ite_pos (by simp only [ByteArray.size_append, lit1]; omega) (Ev.ite_pos (by simp only [ByteArray.size_append, lit1]; omega) (Ev.ite_pos (by simp) (Ev.bind k1 (Ev.ite_pos (by simp only [ByteArray.size_append, lit1]; omega) (Ev.ite_pos (by simp only [ByteArray.size_append, lit1]; omega) (Ev.now _)))))))))))
        · refine Ev.step (fun k => by rw [impl_showExp.f, if_neg e0, if_neg e1, if_neg e2, if_pos e3]) ?_
          exact (Ev.ite_pos (by simp) (Ev.bind g2 (Ev.ite_pos (by omega) (Ev.ite_pos (by simp only [ByteArray.size_append, lit1]; omega) (Ev.ite_pos (by simp only [ByteArray.size_append, lit1]; omega) (Ev.ite_pos (by simp only [ByteArray.size_append, lit1]; omega) (Ev.ite_pos (by simp) (Ev.bind k2 (Ev.ite_pos (by simp only [ByteArray.size_append, lit1]; omega) (Ev.ite_pos (by simp only [ByteArray.size_append, lit1]; omega) (Ev.now _)))))))))))
        simp only [ByteArray.size_append, lit1]
        omega
      · simp at hl
        omega
    exact ⟨_, Ev.step (f := fun _ => some _) (fun k => by rw [spec_l02Show.f, if_neg e0, if_neg e1, if_neg e2, if_neg e3]) (Ev.now _), Ev.step (f := fun _ => some _) (fun k => by rw [impl_showExp.f, if_neg e0, if_neg e1, if_neg e2, if_neg e3]) (Ev.now _), by rw [lit3]; omega⟩
theorem ShowExp_same (zs : List Int) (p v : Int) (body : List S61) (x : S38) (hz : zs.length ≤ 1048576) (hv : v ≤ 9223372036854775807) (hN : nE x ≤ 1099511627776) :
    ∃ r, Ev (fun k => spec_ShowExp.f k zs p v body x.f0 x.f1 x.f2 x.f3 x.f4) r ∧ Ev (fun k => impl_ShowExp.f k zs p v body x.f0 x.f1 x.f2 x.f3 x.f4) r := by
  obtain ⟨k, n, b, t, l⟩ := x
  have h1 := expOk_ev zs p v body hz _ ⟨k, n, b, t, l⟩ (Nat.lt_succ_self _) (by omega) 0 (by omega) (by omega)
  rw [show (30 : Int) - 0 = 30 by omega] at h1
  have h2 : impl_isExp.f zs p v body k n b t l 0 = some (okX (zs.length : Int) v 0 ⟨k, n, b, t, l⟩) := by
    unfold impl_isExp.f
    rw [if_pos ⟨by omega, by omega⟩]
  dsimp only at h1 ⊢
  cases ho : okX (zs.length : Int) v 0 ⟨k, n, b, t, l⟩ with
  | false =>
    rw [ho] at h1 h2
    exact ⟨_, Ev.bind (Ev.bind (f := fun _ t => some t) h1 (Ev.now _)) (Ev.ite_neg (by simp) (Ev.now _)), Ev.const h2 (Ev.ite_neg (by simp) (Ev.now _))⟩
  | true =>
    rw [ho] at h1 h2
    obtain ⟨r, g1, g2, _⟩ := show_ev (zs.length : Int) v (by omega) hv _ ⟨k, n, b, t, l⟩ (Nat.lt_succ_self _) hN 0 ho
    exact ⟨r, Ev.bind (Ev.bind (f := fun _ t => some t) h1 (Ev.now _)) (Ev.ite_pos rfl (Ev.bind g1 (Ev.now _))), Ev.const h2 (Ev.ite_pos rfl (Ev.bind g2 (Ev.now _)))⟩
end Go.Proofs.YtjcggilkfofiaaaDoor.Ex
