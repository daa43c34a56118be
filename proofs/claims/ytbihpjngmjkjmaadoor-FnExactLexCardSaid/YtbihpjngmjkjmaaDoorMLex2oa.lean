/- Printed by a program over this seat's translation: a Lean function for each Go function, and that the Go code comes to its answers. -/
import Derived.Test.YtbihpjngmjkjmaaDoorMLex0a
import Derived.Test.YtbihpjngmjkjmaaDoorMLexxF27
import Derived.Test.YtbihpjngmjkjmaaDoorMLexxF28
import Derived.Test.YtbihpjngmjkjmaaDoorMLex0b
namespace Go.Proofs.YtbihpjngmjkjmaaDoor.P
open Go.RowKit Go.Proofs.YtbihpjngmjkjmaaDoorW.PrintWords Go.Proofs.YtbihpjngmjkjmaaDoorW.PrintLast Go.Proofs.YtbihpjngmjkjmaaDoorW.PrintMore
attribute [local go_sem] max2_int min2_int max_two min_two max_three min_three max_four min_four   -- for this text's walks alone
set_option linter.unusedVariables false
set_option linter.unusedSimpArgs false

/-! ### laws_FnExactLex: function 8 -/
def laws_FnExactLex.f (k : Nat) (a0 : ByteArray) : Option (Bool) := if (a0.size : Int) > 1048576 then (some true) else ((spec_Lex.f k a0).bind fun bt101 => ((impl_Lex.f k a0).bind fun bt105 => ((laws_eqTokenS.f k bt105.1 bt101.1).bind fun t109 => (if t109 = true then (if bt105.2 = bt101.2 then ((laws_markTokenS.f k bt105.1 1).bind fun bt110 => ((laws_heldTokenS.f k bt110.2 1).bind fun t112 => (if t112 < 0 then (none) else (if t112 = bt110.1 then ((impl_Lex.f k a0).bind fun bt113 => ((laws_eqTokenS.f k bt113.1 bt101.1).bind fun t117 => (if t117 = true then (if bt113.2 = bt101.2 then ((laws_heldTokenS.f k bt110.2 1).bind fun t118 => (if t118 < 0 then (none) else (if t118 = bt110.1 then (some true) else (none)))) else (none)) else (none)))) else (none))))) else (none)) else (none)))))
theorem laws_FnExactLex.mono : ∀ a0 k, LeO (laws_FnExactLex.f k a0) (laws_FnExactLex.f (k + 1) a0) := by
  intro a0 k
  unfold laws_FnExactLex.f
  repeat' first
      | (with_reducible exact impl_Lex.mono _ _)
      | (with_reducible exact laws_eqTokenS.mono _ _ _)
      | (with_reducible exact laws_heldTokenS.mono _ _ _)
      | (with_reducible exact laws_markTokenS.mono _ _ _)
      | (with_reducible exact spec_Lex.mono _ _)
      | (with_reducible exact LeO.refl _)
      | (with_reducible exact LeO.none _)
      | (with_reducible refine LeO.ite ?_ ?_)
      | (with_reducible refine LeO.bind ?_ (fun _ => ?_))
      | exact impl_Lex.mono _ _
      | exact laws_eqTokenS.mono _ _ _
      | exact laws_heldTokenS.mono _ _ _
      | exact laws_markTokenS.mono _ _ _
      | exact spec_Lex.mono _ _
      | exact LeO.none _
      | refine LeO.ite ?_ ?_
      | refine LeO.bind ?_ (fun _ => ?_)
set_option maxHeartbeats 8000000 in
set_option maxRecDepth 100000 in
theorem laws_FnExactLex.calls (k : Nat) (a0 : ByteArray) (r : Bool) (w : World) (h : laws_FnExactLex.f k a0 = some r) (ht : TabE w) :
    Calls Tryd.prog 8 #[.string a0] w fun e w' => e = .returned (.bool r) ∧ Below w.heap.size w w' := by
  have HB := Zs0.mk (Below.refl w.heap.size w)
  have HT := Zs0.mk ht
  clear ht
  have H : (if (a0.size : Int) > 1048576 then (some true) else ((spec_Lex.f k a0).bind fun bt101 => ((impl_Lex.f k a0).bind fun bt105 => ((laws_eqTokenS.f k bt105.1 bt101.1).bind fun t109 => (if t109 = true then (if bt105.2 = bt101.2 then ((laws_markTokenS.f k bt105.1 1).bind fun bt110 => ((laws_heldTokenS.f k bt110.2 1).bind fun t112 => (if t112 < 0 then (none) else (if t112 = bt110.1 then ((impl_Lex.f k a0).bind fun bt113 => ((laws_eqTokenS.f k bt113.1 bt101.1).bind fun t117 => (if t117 = true then (if bt113.2 = bt101.2 then ((laws_heldTokenS.f k bt110.2 1).bind fun t118 => (if t118 < 0 then (none) else (if t118 = bt110.1 then (some true) else (none)))) else (none)) else (none)))) else (none))))) else (none)) else (none)))))) = some r := h
  clear h
  by_cases c2 : (a0.size : Int) > 1048576
  · rw [if_pos c2] at H
    have c2b0 : decide (1048576 < (a0.size : Int)) = true := decide_eq_true c2
    have c2b1 : decide (1048576 < a0.size) = true := decide_eq_true (by omega)
    clear c2
    obtain rfl := Option.some.inj H
    go_enter Tryd.func8, Tryd.ntmps8
    go_wp2
    go_ret
    exact ⟨by first | rfl | (simp [eWn, eWs] <;> rfl) | (simp [*, eWn, eWs] <;> rfl), by repeat (first | (with_reducible first | exact HB.out | apply blA | apply pbN | apply bl1) | exact HB.out)⟩
  · rw [if_neg c2] at H
    have c2b0 : decide (1048576 < (a0.size : Int)) = false := decide_eq_false c2
    have c2b1 : decide (1048576 < a0.size) = false := decide_eq_false (by omega)
    clear c2
    replace H := Option.bind_eq_some_iff.mp H
    obtain ⟨⟨t101, t102⟩, A30, H⟩ := H
    replace H : ((impl_Lex.f k a0).bind fun bt105 => ((laws_eqTokenS.f k bt105.1 t101).bind fun t109 => (if t109 = true then (if bt105.2 = t102 then ((laws_markTokenS.f k bt105.1 1).bind fun bt110 => ((laws_heldTokenS.f k bt110.2 1).bind fun t112 => (if t112 < 0 then (none) else (if t112 = bt110.1 then ((impl_Lex.f k a0).bind fun bt113 => ((laws_eqTokenS.f k bt113.1 t101).bind fun t117 => (if t117 = true then (if bt113.2 = t102 then ((laws_heldTokenS.f k bt110.2 1).bind fun t118 => (if t118 < 0 then (none) else (if t118 = bt110.1 then (some true) else (none)))) else (none)) else (none)))) else (none))))) else (none)) else (none)))) = some r := H
    have A3 := Zs0.mk A30
    clear A30
    replace H := Option.bind_eq_some_iff.mp H
    obtain ⟨⟨t105, t106⟩, A40, H⟩ := H
    replace H : ((laws_eqTokenS.f k t105 t101).bind fun t109 => (if t109 = true then (if t106 = t102 then ((laws_markTokenS.f k t105 1).bind fun bt110 => ((laws_heldTokenS.f k bt110.2 1).bind fun t112 => (if t112 < 0 then (none) else (if t112 = bt110.1 then ((impl_Lex.f k a0).bind fun bt113 => ((laws_eqTokenS.f k bt113.1 t101).bind fun t117 => (if t117 = true then (if bt113.2 = t102 then ((laws_heldTokenS.f k bt110.2 1).bind fun t118 => (if t118 < 0 then (none) else (if t118 = bt110.1 then (some true) else (none)))) else (none)) else (none)))) else (none))))) else (none)) else (none))) = some r := H
    have A4 := Zs0.mk A40
    clear A40
    replace H := Option.bind_eq_some_iff.mp H
    obtain ⟨t109, A50, H⟩ := H
    replace H : (if t109 = true then (if t106 = t102 then ((laws_markTokenS.f k t105 1).bind fun bt110 => ((laws_heldTokenS.f k bt110.2 1).bind fun t112 => (if t112 < 0 then (none) else (if t112 = bt110.1 then ((impl_Lex.f k a0).bind fun bt113 => ((laws_eqTokenS.f k bt113.1 t101).bind fun t117 => (if t117 = true then (if bt113.2 = t102 then ((laws_heldTokenS.f k bt110.2 1).bind fun t118 => (if t118 < 0 then (none) else (if t118 = bt110.1 then (some true) else (none)))) else (none)) else (none)))) else (none))))) else (none)) else (none)) = some r := H
    have A5 := Zs0.mk A50
    clear A50
    by_cases c6 : t109 = true
    · subst c6
      have H1 : (if t106 = t102 then ((laws_markTokenS.f k t105 1).bind fun bt110 => ((laws_heldTokenS.f k bt110.2 1).bind fun t112 => (if t112 < 0 then (none) else (if t112 = bt110.1 then ((impl_Lex.f k a0).bind fun bt113 => ((laws_eqTokenS.f k bt113.1 t101).bind fun t117 => (if t117 = true then (if bt113.2 = t102 then ((laws_heldTokenS.f k bt110.2 1).bind fun t118 => (if t118 < 0 then (none) else (if t118 = bt110.1 then (some true) else (none)))) else (none)) else (none)))) else (none))))) else (none)) = some r := by rw [if_pos rfl] at H; exact H
      clear H
      have H := H1
      clear H1
      have c7 := ipos H
      rw [if_pos c7] at H
      have c7b0 : (t106 == t102) = true := beq_iff_eq.mpr c7
      have c7b1 : (t106 != t102) = false := bne_eq_false_iff_eq.mpr c7
      clear c7
      replace H := Option.bind_eq_some_iff.mp H
      obtain ⟨⟨t110, t111⟩, A80, H⟩ := H
      replace H : ((laws_heldTokenS.f k t111 1).bind fun t112 => (if t112 < 0 then (none) else (if t112 = t110 then ((impl_Lex.f k a0).bind fun bt113 => ((laws_eqTokenS.f k bt113.1 t101).bind fun t117 => (if t117 = true then (if bt113.2 = t102 then ((laws_heldTokenS.f k t111 1).bind fun t118 => (if t118 < 0 then (none) else (if t118 = t110 then (some true) else (none)))) else (none)) else (none)))) else (none)))) = some r := H
      have A8 := Zs0.mk A80
      clear A80
      replace H := Option.bind_eq_some_iff.mp H
      obtain ⟨t112, A90, H⟩ := H
      replace H : (if t112 < 0 then (none) else (if t112 = t110 then ((impl_Lex.f k a0).bind fun bt113 => ((laws_eqTokenS.f k bt113.1 t101).bind fun t117 => (if t117 = true then (if bt113.2 = t102 then ((laws_heldTokenS.f k t111 1).bind fun t118 => (if t118 < 0 then (none) else (if t118 = t110 then (some true) else (none)))) else (none)) else (none)))) else (none))) = some r := H
      have A9 := Zs0.mk A90
      clear A90
      by_cases c10 : t112 < 0
      · rw [if_pos c10] at H
        exact absurd H (by simp)
      · rw [if_neg c10] at H
        have c10b0 : decide (t112 < 0) = false := decide_eq_false c10
        clear c10
        have c11 := ipos H
        rw [if_pos c11] at H
        have c11b0 : (t112 == t110) = true := beq_iff_eq.mpr c11
        have c11b1 : (t112 != t110) = false := bne_eq_false_iff_eq.mpr c11
        clear c11
        replace H := Option.bind_eq_some_iff.mp H
        obtain ⟨⟨t113, t114⟩, A120, H⟩ := H
        replace H : ((laws_eqTokenS.f k t113 t101).bind fun t117 => (if t117 = true then (if t114 = t102 then ((laws_heldTokenS.f k t111 1).bind fun t118 => (if t118 < 0 then (none) else (if t118 = t110 then (some true) else (none)))) else (none)) else (none))) = some r := H
        have A12 := Zs0.mk A120
        clear A120
        replace H := Option.bind_eq_some_iff.mp H
        obtain ⟨t117, A130, H⟩ := H
        replace H : (if t117 = true then (if t114 = t102 then ((laws_heldTokenS.f k t111 1).bind fun t118 => (if t118 < 0 then (none) else (if t118 = t110 then (some true) else (none)))) else (none)) else (none)) = some r := H
        have A13 := Zs0.mk A130
        clear A130
        by_cases c14 : t117 = true
        · subst c14
          have H1 : (if t114 = t102 then ((laws_heldTokenS.f k t111 1).bind fun t118 => (if t118 < 0 then (none) else (if t118 = t110 then (some true) else (none)))) else (none)) = some r := by rw [if_pos rfl] at H; exact H
          clear H
          have H := H1
          clear H1
          have c15 := ipos H
          rw [if_pos c15] at H
          have c15b0 : (t114 == t102) = true := beq_iff_eq.mpr c15
          have c15b1 : (t114 != t102) = false := bne_eq_false_iff_eq.mpr c15
          clear c15
          replace H := Option.bind_eq_some_iff.mp H
          obtain ⟨t118, A160, H⟩ := H
          replace H : (if t118 < 0 then (none) else (if t118 = t110 then (some true) else (none))) = some r := H
          have A16 := Zs0.mk A160
          clear A160
          by_cases c17 : t118 < 0
          · rw [if_pos c17] at H
            exact absurd H (by simp)
          · rw [if_neg c17] at H
            have c17b0 : decide (t118 < 0) = false := decide_eq_false c17
            clear c17
            have c18 := ipos H
            rw [if_pos c18] at H
            have c18b0 : (t118 == t110) = true := beq_iff_eq.mpr c18
            have c18b1 : (t118 != t110) = false := bne_eq_false_iff_eq.mpr c18
            clear c18
            obtain rfl := Option.some.inj H
            go_enter Tryd.func8, Tryd.ntmps8
            go_wp2_with (first | ((with_reducible refine gtC (f := 27) rfl ?_); refine goesL_ (some 16) rfl rfl Tryd.func27 (by kernel_rfl) rfl #[.string a0] rfl (by (try simp only [List.map_toArray, List.map_cons, List.map_nil]); first | done | rfl | (simp only [List.length_drop, List.length_take]; rfl)) ?_; (with_reducible refine (spec_Lex.calls k a0 t101 t102 _ A3.out).mono ?_); rintro e w19 ⟨v103, rfl, ho0, hb⟩; refine ⟨_, rfl, ?_⟩; have n0_ := Zs0.mk (Kd.R_lower ho0 (blZ (by repeat (first | (with_reducible first | exact HB.out | apply blA | apply pbN | apply bl1) | exact HB.out)))); have n1_ := Zs0.mk (blT (by repeat (first | (with_reducible first | exact HB.out | apply blA | apply pbN | apply bl1) | exact HB.out)) hb); clear HB; have HO104 := n0_; have HB := n1_; clear n0_ n1_; (try clear hb); (try clear hb2); (try clear hk); (try clear hi); (try clear ho0)) | ((with_reducible refine gtC (f := 28) rfl ?_); refine goesL_ (some 21) rfl rfl Tryd.func28 (by kernel_rfl) rfl #[.string a0] rfl (by (try simp only [List.map_toArray, List.map_cons, List.map_nil]); first | done | rfl | (simp only [List.length_drop, List.length_take]; rfl)) ?_; (with_reducible refine (impl_Lex.calls k a0 t105 t106 _ A4.out (tabEB HT.out (by repeat (first | (with_reducible first | exact HB.out | apply blA | apply pbN | apply bl1) | exact HB.out)))).mono ?_); rintro e w20 ⟨v107, rfl, ho0, hb⟩; refine ⟨_, rfl, ?_⟩; have n0_ := Zs0.mk (Kd.R_elder' (by (with_reducible repeat (first | apply Kd.R_alloc | apply Kd.R_drewN | apply Kd.R_drew)); exact HO104.out) (Kd.R_base ho0) hb); have n1_ := Zs0.mk (Kd.R_lower (Kd.R_new' ho0 (Kd.R_lt (by (with_reducible repeat (first | apply Kd.R_alloc | apply Kd.R_drewN | apply Kd.R_drew)); exact HO104.out))) (blZ (by repeat (first | (with_reducible first | exact HB.out | apply blA | apply pbN | apply bl1) | exact HB.out)))); have n2_ := Zs0.mk (blT (by repeat (first | (with_reducible first | exact HB.out | apply blA | apply pbN | apply bl1) | exact HB.out)) hb); clear HO104; clear HB; have HO104 := n0_; have HO108 := n1_; have HB := n2_; clear n0_ n1_ n2_; (try clear hb); (try clear hb2); (try clear hk); (try clear hi); (try clear ho0); obtain ⟨Ao21, co21, eo21⟩ := Kd.R_slice HO108.out; subst eo21; obtain ⟨Ao22, co22, eo22⟩ := Kd.R_slice HO104.out; subst eo22) | ((with_reducible refine gtC (f := 29) rfl ?_); refine goesL_ (some 26) rfl rfl Tryd.func29 (by kernel_rfl) rfl #[.slice Ao21 t105.length co21, .slice Ao22 t101.length co22] rfl (by (try simp only [List.map_toArray, List.map_cons, List.map_nil]); first | done | rfl | (simp only [List.length_drop, List.length_take]; rfl)) ?_; (with_reducible refine (laws_eqTokenS.calls k _ _ t105 _ _ t101 true _ ?side1 ?side2 ?side3 ?side4 A5.out).mono ?_); (case side1 => repeat (first | exact (Kd.R_reads' HO108.out).2.2 | (with_reducible refine Kd.C_alloc ?_ _) | (with_reducible refine Kd.C_drewN ?_ _) | (with_reducible refine Kd.C_drew ?_))); (case side2 => exact (Kd.R_reads' HO108.out).2.1); (case side3 => repeat (first | exact (Kd.R_reads' HO104.out).2.2 | (with_reducible refine Kd.C_alloc ?_ _) | (with_reducible refine Kd.C_drewN ?_ _) | (with_reducible refine Kd.C_drew ?_))); (case side4 => exact (Kd.R_reads' HO104.out).2.1); rintro e w23 ⟨rfl, hb⟩; refine ⟨_, rfl, ?_⟩; have n0_ := Zs0.mk (Kd.R_below (by (with_reducible repeat (first | apply Kd.R_alloc | apply Kd.R_drewN | apply Kd.R_drew)); exact HO104.out) hb); have n1_ := Zs0.mk (Kd.R_below (by (with_reducible repeat (first | apply Kd.R_alloc | apply Kd.R_drewN | apply Kd.R_drew)); exact HO108.out) hb); have n2_ := Zs0.mk (blT (by repeat (first | (with_reducible first | exact HB.out | apply blA | apply pbN | apply bl1) | exact HB.out)) hb); clear HO104; clear HO108; clear HB; have HO104 := n0_; have HO108 := n1_; have HB := n2_; clear n0_ n1_ n2_; (try clear hb); (try clear hb2); (try clear hk); (try clear hi)) | ((with_reducible refine gtC (f := 30) rfl ?_); refine goesL_ (some 35) rfl rfl Tryd.func30 (by kernel_rfl) rfl #[.slice Ao21 t105.length co21, .int .i64 1] rfl (by (try simp only [List.map_toArray, List.map_cons, List.map_nil]); first | done | rfl | (simp only [List.length_drop, List.length_take]; rfl)) ?_; (with_reducible refine (laws_markTokenS.calls k (fun k_ => some k_ = (.slice Ao21 t105.length co21 : Value).ownBlock) (.slice Ao21 t105.length co21) t105 1 t110 t111 w _ ?side1 ?side2 A8.out).mono ?_); (case side1 => repeat (first | (with_reducible first | exact HB.out | apply blA | apply pbN | apply bl1) | exact HB.out)); (case side2 => exact Kd.R_tight rfl HO108.out); rintro e w24 ⟨rfl, hy0, hb, hkp⟩; refine ⟨_, rfl, ?_⟩; have n0_ := Zs0.mk (Kd.R_mono (ok' := fun k_ => some k_ ≠ (.slice Ao21 t105.length co21 : Value).ownBlock) (Kd.R_keptB (HO104.out) hkp (by intro k_ hk_ hs_; first | exact (hk_.2) hs_ | exact (hk_.1) hs_ | exact (hk_.1.1) hs_ | exact (hk_.1.2) hs_ | exact (hk_.2.1) hs_ | exact (hk_.2.2) hs_ | exact (hk_.1.1.1) hs_ | exact (hk_.1.1.2) hs_ | exact (hk_.1.2.1) hs_ | exact (hk_.1.2.2) hs_ | exact (hk_.2.1.1) hs_ | exact (hk_.2.1.2) hs_ | exact (hk_.2.2.1) hs_ | exact (hk_.2.2.2) hs_ | exact (hk_.1.1.1.1) hs_ | exact (hk_.1.1.1.2) hs_ | exact (hk_.1.1.2.1) hs_ | exact (hk_.1.1.2.2) hs_ | exact (hk_.1.2.1.1) hs_ | exact (hk_.1.2.1.2) hs_ | exact (hk_.1.2.2.1) hs_ | exact (hk_.1.2.2.2) hs_ | exact (hk_.2.1.1.1) hs_ | exact (hk_.2.1.1.2) hs_ | exact (hk_.2.1.2.1) hs_ | exact (hk_.2.1.2.2) hs_ | exact (hk_.2.2.1.1) hs_ | exact (hk_.2.2.1.2) hs_ | exact (hk_.2.2.2.1) hs_ | exact (hk_.2.2.2.2) hs_)) (fun k_ hk_ => (by first | exact hk_.1.2 | exact hk_.1 | exact hk_.2 | exact hk_.1.1 | exact hk_.2.1 | exact hk_.2.2 | exact hk_.1.1.1 | exact hk_.1.1.2 | exact hk_.1.2.1 | exact hk_.1.2.2 | exact hk_.2.1.1 | exact hk_.2.1.2 | exact hk_.2.2.1 | exact hk_.2.2.2 | exact hk_.1.1.1.1 | exact hk_.1.1.1.2 | exact hk_.1.1.2.1 | exact hk_.1.1.2.2 | exact hk_.1.2.1.1 | exact hk_.1.2.1.2 | exact hk_.1.2.2.1 | exact hk_.1.2.2.2 | exact hk_.2.1.1.1 | exact hk_.2.1.1.2 | exact hk_.2.1.2.1 | exact hk_.2.1.2.2 | exact hk_.2.2.1.1 | exact hk_.2.2.1.2 | exact hk_.2.2.2.1 | exact hk_.2.2.2.2))); have n1_ := Zs0.mk (Kd.R_reok rfl hy0 (fun k_ e_ => HO108.out.1 k_ e_)); have n2_ := Zs0.mk (hb); clear HO104; clear HO108; clear HB; have HO104 := n0_; have HO108 := n1_; have HB := n2_; clear n0_ n1_ n2_; (try clear hb); (try clear hkp); (try clear hy0)) | ((with_reducible refine gtC (f := 31) rfl ?_); refine goesL_ (some 38) rfl rfl Tryd.func31 (by kernel_rfl) rfl #[.slice Ao21 t111.length co21, .int .i64 1] rfl (by (try simp only [List.map_toArray, List.map_cons, List.map_nil]); first | done | (rw [show t111.length = t105.length from (Kd.R_reads' HO108.out).1.symm] <;> rfl) | rfl | (simp only [List.length_drop, List.length_take]; rfl)) ?_; (with_reducible refine (laws_heldTokenS.calls k _ _ t111 1 t112 _ ?side1 ?side2 A9.out).mono ?_); (case side1 => repeat (first | exact (Kd.R_reads' HO108.out).2.2 | (with_reducible refine Kd.C_alloc ?_ _) | (with_reducible refine Kd.C_drewN ?_ _) | (with_reducible refine Kd.C_drew ?_))); (case side2 => rw [show t111.length = t105.length from (Kd.R_reads' HO108.out).1.symm]; exact (Kd.R_reads' HO108.out).2.1); rintro e w25 ⟨rfl, hb⟩; refine ⟨_, rfl, ?_⟩; have n0_ := Zs0.mk (Kd.R_below (by (with_reducible repeat (first | apply Kd.R_alloc | apply Kd.R_drewN | apply Kd.R_drew)); exact HO104.out) hb); have n1_ := Zs0.mk (Kd.R_below (by (with_reducible repeat (first | apply Kd.R_alloc | apply Kd.R_drewN | apply Kd.R_drew)); exact HO108.out) hb); have n2_ := Zs0.mk (blT (by repeat (first | (with_reducible first | exact HB.out | apply blA | apply pbN | apply bl1) | exact HB.out)) hb); clear HO104; clear HO108; clear HB; have HO104 := n0_; have HO108 := n1_; have HB := n2_; clear n0_ n1_ n2_; (try clear hb); (try clear hb2); (try clear hk); (try clear hi)) | ((with_reducible refine gtC (f := 28) rfl ?_); refine goesL_ (some 46) rfl rfl Tryd.func28 (by kernel_rfl) rfl #[.string a0] rfl (by (try simp only [List.map_toArray, List.map_cons, List.map_nil]); first | done | rfl | (simp only [List.length_drop, List.length_take]; rfl)) ?_; (with_reducible refine (impl_Lex.calls k a0 t113 t114 _ A12.out (tabEB HT.out (by repeat (first | (with_reducible first | exact HB.out | apply blA | apply pbN | apply bl1) | exact HB.out)))).mono ?_); rintro e w26 ⟨v115, rfl, ho0, hb⟩; refine ⟨_, rfl, ?_⟩; have n0_ := Zs0.mk (Kd.R_elder' (by (with_reducible repeat (first | apply Kd.R_alloc | apply Kd.R_drewN | apply Kd.R_drew)); exact HO104.out) (Kd.R_base ho0) hb); have n1_ := Zs0.mk (Kd.R_elder' (by (with_reducible repeat (first | apply Kd.R_alloc | apply Kd.R_drewN | apply Kd.R_drew)); exact HO108.out) (Kd.R_base ho0) hb); have n2_ := Zs0.mk (Kd.R_lower (Kd.R_new' (Kd.R_new' ho0 (Kd.R_lt (by (with_reducible repeat (first | apply Kd.R_alloc | apply Kd.R_drewN | apply Kd.R_drew)); exact HO104.out))) (Kd.R_lt (by (with_reducible repeat (first | apply Kd.R_alloc | apply Kd.R_drewN | apply Kd.R_drew)); exact HO108.out))) (blZ (by repeat (first | (with_reducible first | exact HB.out | apply blA | apply pbN | apply bl1) | exact HB.out)))); have n3_ := Zs0.mk (blT (by repeat (first | (with_reducible first | exact HB.out | apply blA | apply pbN | apply bl1) | exact HB.out)) hb); clear HO104; clear HO108; clear HB; have HO104 := n0_; have HO108 := n1_; have HO116 := n2_; have HB := n3_; clear n0_ n1_ n2_ n3_; (try clear hb); (try clear hb2); (try clear hk); (try clear hi); (try clear ho0); obtain ⟨Ao27, co27, eo27⟩ := Kd.R_slice HO116.out; subst eo27) | ((with_reducible refine gtC (f := 29) rfl ?_); refine goesL_ (some 51) rfl rfl Tryd.func29 (by kernel_rfl) rfl #[.slice Ao27 t113.length co27, .slice Ao22 t101.length co22] rfl (by (try simp only [List.map_toArray, List.map_cons, List.map_nil]); first | done | rfl | (simp only [List.length_drop, List.length_take]; rfl)) ?_; (with_reducible refine (laws_eqTokenS.calls k _ _ t113 _ _ t101 true _ ?side1 ?side2 ?side3 ?side4 A13.out).mono ?_); (case side1 => repeat (first | exact (Kd.R_reads' HO116.out).2.2 | (with_reducible refine Kd.C_alloc ?_ _) | (with_reducible refine Kd.C_drewN ?_ _) | (with_reducible refine Kd.C_drew ?_))); (case side2 => exact (Kd.R_reads' HO116.out).2.1); (case side3 => repeat (first | exact (Kd.R_reads' HO104.out).2.2 | (with_reducible refine Kd.C_alloc ?_ _) | (with_reducible refine Kd.C_drewN ?_ _) | (with_reducible refine Kd.C_drew ?_))); (case side4 => exact (Kd.R_reads' HO104.out).2.1); rintro e w28 ⟨rfl, hb⟩; refine ⟨_, rfl, ?_⟩; have n0_ := Zs0.mk (Kd.R_below (by (with_reducible repeat (first | apply Kd.R_alloc | apply Kd.R_drewN | apply Kd.R_drew)); exact HO104.out) hb); have n1_ := Zs0.mk (Kd.R_below (by (with_reducible repeat (first | apply Kd.R_alloc | apply Kd.R_drewN | apply Kd.R_drew)); exact HO108.out) hb); have n2_ := Zs0.mk (Kd.R_below (by (with_reducible repeat (first | apply Kd.R_alloc | apply Kd.R_drewN | apply Kd.R_drew)); exact HO116.out) hb); have n3_ := Zs0.mk (blT (by repeat (first | (with_reducible first | exact HB.out | apply blA | apply pbN | apply bl1) | exact HB.out)) hb); clear HO104; clear HO108; clear HO116; clear HB; have HO104 := n0_; have HO108 := n1_; have HO116 := n2_; have HB := n3_; clear n0_ n1_ n2_ n3_; (try clear hb); (try clear hb2); (try clear hk); (try clear hi)) | ((with_reducible refine gtC (f := 31) rfl ?_); refine goesL_ (some 60) rfl rfl Tryd.func31 (by kernel_rfl) rfl #[.slice Ao21 t111.length co21, .int .i64 1] rfl (by (try simp only [List.map_toArray, List.map_cons, List.map_nil]); first | done | (rw [show t111.length = t105.length from (Kd.R_reads' HO108.out).1.symm] <;> rfl) | rfl | (simp only [List.length_drop, List.length_take]; rfl)) ?_; (with_reducible refine (laws_heldTokenS.calls k _ _ t111 1 t118 _ ?side1 ?side2 A16.out).mono ?_); (case side1 => repeat (first | exact (Kd.R_reads' HO108.out).2.2 | (with_reducible refine Kd.C_alloc ?_ _) | (with_reducible refine Kd.C_drewN ?_ _) | (with_reducible refine Kd.C_drew ?_))); (case side2 => rw [show t111.length = t105.length from (Kd.R_reads' HO108.out).1.symm]; exact (Kd.R_reads' HO108.out).2.1); rintro e w29 ⟨rfl, hb⟩; refine ⟨_, rfl, ?_⟩; have n0_ := Zs0.mk (Kd.R_below (by (with_reducible repeat (first | apply Kd.R_alloc | apply Kd.R_drewN | apply Kd.R_drew)); exact HO104.out) hb); have n1_ := Zs0.mk (Kd.R_below (by (with_reducible repeat (first | apply Kd.R_alloc | apply Kd.R_drewN | apply Kd.R_drew)); exact HO108.out) hb); have n2_ := Zs0.mk (Kd.R_below (by (with_reducible repeat (first | apply Kd.R_alloc | apply Kd.R_drewN | apply Kd.R_drew)); exact HO116.out) hb); have n3_ := Zs0.mk (blT (by repeat (first | (with_reducible first | exact HB.out | apply blA | apply pbN | apply bl1) | exact HB.out)) hb); clear HO104; clear HO108; clear HO116; clear HB; have HO104 := n0_; have HO108 := n1_; have HO116 := n2_; have HB := n3_; clear n0_ n1_ n2_ n3_; (try clear hb); (try clear hb2); (try clear hk); (try clear hi)))
            go_ret
            exact ⟨by first | rfl | (simp [eWn, eWs] <;> rfl) | (simp [*, eWn, eWs] <;> rfl), by repeat (first | (with_reducible first | exact HB.out | apply blA | apply pbN | apply bl1) | exact HB.out)⟩
        · replace c14 := Bool.eq_false_iff.mpr c14
          subst c14
          have H1 : (none) = some r := by rw [if_neg (show ¬ (false = true) by decide)] at H; exact H
          clear H
          have H := H1
          clear H1
          exact absurd H (by simp)
    · replace c6 := Bool.eq_false_iff.mpr c6
      subst c6
      have H1 : (none) = some r := by rw [if_neg (show ¬ (false = true) by decide)] at H; exact H
      clear H
      have H := H1
      clear H1
      exact absurd H (by simp)

end Go.Proofs.YtbihpjngmjkjmaaDoor.P
