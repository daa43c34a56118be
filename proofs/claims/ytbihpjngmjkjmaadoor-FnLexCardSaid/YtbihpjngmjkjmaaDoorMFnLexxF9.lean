/- Printed by a program over this seat's translation: a Lean function for each Go function, and that the Go code comes to its answers. -/
import Derived.Test.YtbihpjngmjkjmaaDoorMFnLex0a
import Derived.Test.YtbihpjngmjkjmaaDoorMFnLex0sa
import Derived.Test.YtbihpjngmjkjmaaDoorMFnLex0ta
import Derived.Test.YtbihpjngmjkjmaaDoorMFnLex1a
import Derived.Test.YtbihpjngmjkjmaaDoorMFnLex0b
import Derived.Test.YtbihpjngmjkjmaaDoorMFnLex1oa
import Derived.Test.YtbihpjngmjkjmaaDoorMFnLex2a
import Derived.Test.YtbihpjngmjkjmaaDoorMFnLex0qa
namespace Go.Proofs.YtbihpjngmjkjmaaDoor.P
open Go.RowKit Go.Proofs.YtbihpjngmjkjmaaDoorW.PrintWords Go.Proofs.YtbihpjngmjkjmaaDoorW.PrintLast Go.Proofs.YtbihpjngmjkjmaaDoorW.PrintMore
attribute [local go_sem] max2_int min2_int max_two min_two max_three min_three max_four min_four   -- for this text's walks alone
set_option linter.unusedVariables false
set_option linter.unusedSimpArgs false

attribute [local go_sem high] eqA56
def TabA (w : World) : Prop := TabE w ∧ MaxL w
theorem tabAB {w w' : World} (h : TabA w) (hb : Below w.heap.size w w') : TabA w' := ⟨tabEB h.1 hb, maxB h.2 hb⟩
theorem tabAE {w : World} (h : TabA w) : TabE w := h.1
theorem tabAT {w : World} (h : TabA w) : Tab w := h.1.1
theorem tabAM {w : World} (h : TabA w) : MaxL w := h.2
/-! ### laws_FnLex: function 9 -/
def laws_FnLex.l0 : Nat → ByteArray → List (S56) → Int → List (S56) → ByteArray → ByteArray → Int → Bool → Int → Option (Bool)
  | 0, _, _, _, _, _, _, _, _, _ => none
  | k + 1, x3, x4, x5, x6, x9, x11, x13, x14, x17 => if x17 < (x4.length : Int) then (if 0 ≤ x17 then (if x17 < (x6.length : Int) then (if (!(((rd_T56 x4 x17).f0) == ((rd_T56 x6 x17).f0)) || (!((((rd_T56 x4 x17).f1).toList) == (((rd_T56 x6 x17).f1).toList)) || (!(((rd_T56 x4 x17).f2) == ((rd_T56 x6 x17).f2)) || (!(((rd_T56 x4 x17).f3) == ((rd_T56 x6 x17).f3)))))) = true then (some false) else (if x17 > 0 then (if 0 ≤ (wrap64 (x17 - 1)) then (if (wrap64 (x17 - 1)) < (x4.length : Int) then (if ((rd_T56 x4 x17).f3) < ((rd_T56 x4 (wrap64 (x17 - 1))).f3) then (some false) else (laws_FnLex.l0 k x3 x4 x5 x6 x9 x11 x13 x14 (wrap64 (x17 + 1)))) else (none)) else (none)) else (laws_FnLex.l0 k x3 x4 x5 x6 x9 x11 x13 x14 (wrap64 (x17 + 1))))) else (none)) else (none)) else (if x14 = true then ((impl_DecText.f x13).bind fun t137 => (if t137.toList = x11.toList then ((impl_IsWord.f k x9).bind fun t138 => (if t138 = true then ((impl_NameOk.f k x9).bind fun t139 => (if t139 = true then (some false) else (if x5 = 0 then (if (x3.size : Int) > 2997 then (some true) else (if x3.size + 3 ≤ 9223372036854775807 then ((impl_Lex.f k (x3 ++ (⟨#[32, 10, 32]⟩ : ByteArray))).bind fun bt140 => (if bt140.2 = 0 then (some ((bt140.1.length : Int) == (x4.length : Int))) else (some false))) else (none))) else (some ((x4.length : Int) == 0))))) else (if x5 = 0 then (if (x3.size : Int) > 2997 then (some true) else (if x3.size + 3 ≤ 9223372036854775807 then ((impl_Lex.f k (x3 ++ (⟨#[32, 10, 32]⟩ : ByteArray))).bind fun bt144 => (if bt144.2 = 0 then (some ((bt144.1.length : Int) == (x4.length : Int))) else (some false))) else (none))) else (some ((x4.length : Int) == 0))))) else (some false))) else ((impl_IsWord.f k x9).bind fun t148 => (if t148 = true then ((impl_NameOk.f k x9).bind fun t149 => (if t149 = true then (some false) else (if x5 = 0 then (if (x3.size : Int) > 2997 then (some true) else (if x3.size + 3 ≤ 9223372036854775807 then ((impl_Lex.f k (x3 ++ (⟨#[32, 10, 32]⟩ : ByteArray))).bind fun bt150 => (if bt150.2 = 0 then (some ((bt150.1.length : Int) == (x4.length : Int))) else (some false))) else (none))) else (some ((x4.length : Int) == 0))))) else (if x5 = 0 then (if (x3.size : Int) > 2997 then (some true) else (if x3.size + 3 ≤ 9223372036854775807 then ((impl_Lex.f k (x3 ++ (⟨#[32, 10, 32]⟩ : ByteArray))).bind fun bt154 => (if bt154.2 = 0 then (some ((bt154.1.length : Int) == (x4.length : Int))) else (some false))) else (none))) else (some ((x4.length : Int) == 0))))))
def laws_FnLex.f (k : Nat) (l0 : List Int) : Option (Bool) := (laws_big.f l0).bind fun t101 => (if t101 = true then (some true) else ((spec_DrawLex.f k l0).bind fun t102 => ((impl_Lex.f k t102).bind fun bt103 => ((spec_Lex.f k t102).bind fun bt107 => ((spec_DrawIsWord.f k l0).bind fun t111 => ((spec_DrawNameOk.f k l0).bind fun t112 => ((spec_DrawDecText.f k l0).bind fun t113 => ((spec_DrawReadInt.f k l0).bind fun t114 => ((spec_DrawWords.f k l0).bind fun t115 => ((impl_ReadInt.f t114).bind fun bt116 => ((spec_ReadInt.f k t114).bind fun bt118 => (if bt103.2 = bt107.2 then (if (bt103.1.length : Int) = (bt107.1.length : Int) then ((impl_IsWord.f k t111).bind fun t120 => ((spec_IsWord.f k t111).bind fun t121 => (if (t120 != t121) = true then (none) else ((impl_NameOk.f k t112).bind fun t122 => ((spec_NameOk.f k t112).bind fun t123 => (if (t122 != t123) = true then (none) else ((impl_DecText.f t113).bind fun t124 => ((spec_DecText.f k t113).bind fun t125 => (if t124.toList = t125.toList then (if bt116.1 = bt118.1 then (if (bt116.2 != bt118.2) = true then (none) else ((impl_Words.f t115).bind fun t126 => ((spec_Words.f k t115).bind fun t129 => ((laws_sameTexts.f k t126 t129).bind fun t132 => (if t132 = true then (laws_FnLex.l0 k t102 bt103.1 bt103.2 bt107.1 t112 t114 bt116.1 bt116.2 0) else (none)))))) else (none)) else (none)))))))))) else (none)) else (none)))))))))))))
theorem laws_FnLex.mono_l : ∀ k, (∀ y0 y1 y2 y3 y4 y5 y6 y7 y8, LeO (laws_FnLex.l0 k y0 y1 y2 y3 y4 y5 y6 y7 y8) (laws_FnLex.l0 (k + 1) y0 y1 y2 y3 y4 y5 y6 y7 y8))
  | 0 => fun _ _ _ _ _ _ _ _ _ r h => by simp [laws_FnLex.l0] at h
  | k + 1 => by
    have ih0 := laws_FnLex.mono_l k
    · intro y0 y1 y2 y3 y4 y5 y6 y7 y8
      unfold laws_FnLex.l0
      repeat' first
      | (with_reducible exact ih0 _ _ _ _ _ _ _ _ _)
      | (with_reducible exact impl_IsWord.mono _ _)
      | (with_reducible exact impl_Lex.mono _ _)
      | (with_reducible exact impl_NameOk.mono _ _)
      | (with_reducible exact laws_sameTexts.mono _ _ _)
      | (with_reducible exact spec_DecText.mono _ _)
      | (with_reducible exact spec_DrawDecText.mono _ _)
      | (with_reducible exact spec_DrawIsWord.mono _ _)
      | (with_reducible exact spec_DrawLex.mono _ _)
      | (with_reducible exact spec_DrawNameOk.mono _ _)
      | (with_reducible exact spec_DrawReadInt.mono _ _)
      | (with_reducible exact spec_DrawWords.mono _ _)
      | (with_reducible exact spec_IsWord.mono _ _)
      | (with_reducible exact spec_Lex.mono _ _)
      | (with_reducible exact spec_NameOk.mono _ _)
      | (with_reducible exact spec_ReadInt.mono _ _)
      | (with_reducible exact spec_Words.mono _ _)
      | (with_reducible exact LeO.refl _)
      | (with_reducible exact LeO.none _)
      | (with_reducible refine LeO.ite ?_ ?_)
      | (with_reducible refine LeO.bind ?_ (fun _ => ?_))
      | exact ih0 _ _ _ _ _ _ _ _ _
      | exact impl_IsWord.mono _ _
      | exact impl_Lex.mono _ _
      | exact impl_NameOk.mono _ _
      | exact laws_sameTexts.mono _ _ _
      | exact spec_DecText.mono _ _
      | exact spec_DrawDecText.mono _ _
      | exact spec_DrawIsWord.mono _ _
      | exact spec_DrawLex.mono _ _
      | exact spec_DrawNameOk.mono _ _
      | exact spec_DrawReadInt.mono _ _
      | exact spec_DrawWords.mono _ _
      | exact spec_IsWord.mono _ _
      | exact spec_Lex.mono _ _
      | exact spec_NameOk.mono _ _
      | exact spec_ReadInt.mono _ _
      | exact spec_Words.mono _ _
      | exact LeO.none _
      | refine LeO.ite ?_ ?_
      | refine LeO.bind ?_ (fun _ => ?_)
theorem laws_FnLex.mono : ∀ a0 k, LeO (laws_FnLex.f k a0) (laws_FnLex.f (k + 1) a0) := by
  intro a0 k
  have ih0 := laws_FnLex.mono_l k
  unfold laws_FnLex.f
  repeat' first
      | (with_reducible exact ih0 _ _ _ _ _ _ _ _ _)
      | (with_reducible exact impl_IsWord.mono _ _)
      | (with_reducible exact impl_Lex.mono _ _)
      | (with_reducible exact impl_NameOk.mono _ _)
      | (with_reducible exact laws_sameTexts.mono _ _ _)
      | (with_reducible exact spec_DecText.mono _ _)
      | (with_reducible exact spec_DrawDecText.mono _ _)
      | (with_reducible exact spec_DrawIsWord.mono _ _)
      | (with_reducible exact spec_DrawLex.mono _ _)
      | (with_reducible exact spec_DrawNameOk.mono _ _)
      | (with_reducible exact spec_DrawReadInt.mono _ _)
      | (with_reducible exact spec_DrawWords.mono _ _)
      | (with_reducible exact spec_IsWord.mono _ _)
      | (with_reducible exact spec_Lex.mono _ _)
      | (with_reducible exact spec_NameOk.mono _ _)
      | (with_reducible exact spec_ReadInt.mono _ _)
      | (with_reducible exact spec_Words.mono _ _)
      | (with_reducible exact LeO.refl _)
      | (with_reducible exact LeO.none _)
      | (with_reducible refine LeO.ite ?_ ?_)
      | (with_reducible refine LeO.bind ?_ (fun _ => ?_))
      | exact ih0 _ _ _ _ _ _ _ _ _
      | exact impl_IsWord.mono _ _
      | exact impl_Lex.mono _ _
      | exact impl_NameOk.mono _ _
      | exact laws_sameTexts.mono _ _ _
      | exact spec_DecText.mono _ _
      | exact spec_DrawDecText.mono _ _
      | exact spec_DrawIsWord.mono _ _
      | exact spec_DrawLex.mono _ _
      | exact spec_DrawNameOk.mono _ _
      | exact spec_DrawReadInt.mono _ _
      | exact spec_DrawWords.mono _ _
      | exact spec_IsWord.mono _ _
      | exact spec_Lex.mono _ _
      | exact spec_NameOk.mono _ _
      | exact spec_ReadInt.mono _ _
      | exact spec_Words.mono _ _
      | exact LeO.none _
      | refine LeO.ite ?_ ?_
      | refine LeO.bind ?_ (fun _ => ?_)
set_option maxHeartbeats 8000000 in
set_option maxRecDepth 100000 in
theorem laws_FnLex.calls (k : Nat) (A0 : Option Addr) (c0 : Nat) (l0 : List Int) (r : Bool) (w : World) (hr0 : Kd.C (Kd.int .u8) w A0 l0.length l0) (hc0 : l0.length ≤ c0) (h : laws_FnLex.f k l0 = some r) (ht : TabA w) :
    Calls Tryd.prog 9 #[.slice A0 l0.length c0] w fun e w' => e = .returned (.bool r) ∧ Below w.heap.size w w' := by
  have hu56 := Tryd.underlying56
  have HR0 := Zs0.mk hr0
  have HC0 := Zs0.mk hc0
  clear hr0 hc0
  have HB := Zs0.mk (Below.refl w.heap.size w)
  have HT := Zs0.mk ht
  clear ht
  have H : ((laws_big.f l0).bind fun t101 => (if t101 = true then (some true) else ((spec_DrawLex.f k l0).bind fun t102 => ((impl_Lex.f k t102).bind fun bt103 => ((spec_Lex.f k t102).bind fun bt107 => ((spec_DrawIsWord.f k l0).bind fun t111 => ((spec_DrawNameOk.f k l0).bind fun t112 => ((spec_DrawDecText.f k l0).bind fun t113 => ((spec_DrawReadInt.f k l0).bind fun t114 => ((spec_DrawWords.f k l0).bind fun t115 => ((impl_ReadInt.f t114).bind fun bt116 => ((spec_ReadInt.f k t114).bind fun bt118 => (if bt103.2 = bt107.2 then (if (bt103.1.length : Int) = (bt107.1.length : Int) then ((impl_IsWord.f k t111).bind fun t120 => ((spec_IsWord.f k t111).bind fun t121 => (if (t120 != t121) = true then (none) else ((impl_NameOk.f k t112).bind fun t122 => ((spec_NameOk.f k t112).bind fun t123 => (if (t122 != t123) = true then (none) else ((impl_DecText.f t113).bind fun t124 => ((spec_DecText.f k t113).bind fun t125 => (if t124.toList = t125.toList then (if bt116.1 = bt118.1 then (if (bt116.2 != bt118.2) = true then (none) else ((impl_Words.f t115).bind fun t126 => ((spec_Words.f k t115).bind fun t129 => ((laws_sameTexts.f k t126 t129).bind fun t132 => (if t132 = true then (laws_FnLex.l0 k t102 bt103.1 bt103.2 bt107.1 t112 t114 bt116.1 bt116.2 0) else (none)))))) else (none)) else (none)))))))))) else (none)) else (none)))))))))))))) = some r := h
  clear h
  replace H := Option.bind_eq_some_iff.mp H
  obtain ⟨t101, A20, H⟩ := H
  try dsimp only at H
  have A2 := Zs0.mk A20
  clear A20
  by_cases c3 : t101 = true
  · subst c3
    have H1 : (some true) = some r := by rw [if_pos rfl] at H; exact H
    clear H
    have H := H1
    clear H1
    obtain rfl := Option.some.inj H
    go_enter Tryd.func9, Tryd.ntmps9
    go_wp2_with (first | (go_at_call 32; (with_reducible refine (laws_big.calls _ _ l0 true _ ?side1 ?side2 A2.out).mono ?_); (case side1 => repeat (first | exact HR0.out | (with_reducible refine Kd.C_alloc ?_ _) | (with_reducible refine Kd.C_drewN ?_ _) | (with_reducible refine Kd.C_drew ?_))); (case side2 => exact HC0.out); rintro e w' ⟨rfl, ⟨nd, rfl⟩⟩; (try first | exact ⟨rfl, _, World.drewN_drewN _ _ _⟩ | exact ⟨rfl, _, Eq.trans (World.drewN_drewN _ _ _) (congrArg (World.drewN _) (Nat.add_assoc _ _ _))⟩)))
    go_ret
    exact ⟨by first | rfl | (simp [eWn, eWs] <;> rfl) | (simp [*, eWn, eWs] <;> rfl), by repeat (first | (with_reducible first | exact HB.out | apply blA | apply pbN | apply bl1) | exact HB.out)⟩
  · replace c3 := Bool.eq_false_iff.mpr c3
    subst c3
    have H1 : ((spec_DrawLex.f k l0).bind fun t102 => ((impl_Lex.f k t102).bind fun bt103 => ((spec_Lex.f k t102).bind fun bt107 => ((spec_DrawIsWord.f k l0).bind fun t111 => ((spec_DrawNameOk.f k l0).bind fun t112 => ((spec_DrawDecText.f k l0).bind fun t113 => ((spec_DrawReadInt.f k l0).bind fun t114 => ((spec_DrawWords.f k l0).bind fun t115 => ((impl_ReadInt.f t114).bind fun bt116 => ((spec_ReadInt.f k t114).bind fun bt118 => (if bt103.2 = bt107.2 then (if (bt103.1.length : Int) = (bt107.1.length : Int) then ((impl_IsWord.f k t111).bind fun t120 => ((spec_IsWord.f k t111).bind fun t121 => (if (t120 != t121) = true then (none) else ((impl_NameOk.f k t112).bind fun t122 => ((spec_NameOk.f k t112).bind fun t123 => (if (t122 != t123) = true then (none) else ((impl_DecText.f t113).bind fun t124 => ((spec_DecText.f k t113).bind fun t125 => (if t124.toList = t125.toList then (if bt116.1 = bt118.1 then (if (bt116.2 != bt118.2) = true then (none) else ((impl_Words.f t115).bind fun t126 => ((spec_Words.f k t115).bind fun t129 => ((laws_sameTexts.f k t126 t129).bind fun t132 => (if t132 = true then (laws_FnLex.l0 k t102 bt103.1 bt103.2 bt107.1 t112 t114 bt116.1 bt116.2 0) else (none)))))) else (none)) else (none)))))))))) else (none)) else (none)))))))))))) = some r := by rw [if_neg (show ¬ (false = true) by decide)] at H; exact H
    clear H
    have H := H1
    clear H1
    replace H := Option.bind_eq_some_iff.mp H
    obtain ⟨t102, A40, H⟩ := H
    try dsimp only at H
    have A4 := Zs0.mk A40
    clear A40
    replace H := Option.bind_eq_some_iff.mp H
    obtain ⟨⟨t103, t104⟩, A50, H⟩ := H
    try dsimp only at H
    have A5 := Zs0.mk A50
    clear A50
    replace H := Option.bind_eq_some_iff.mp H
    obtain ⟨⟨t107, t108⟩, A60, H⟩ := H
    try dsimp only at H
    have A6 := Zs0.mk A60
    clear A60
    replace H := Option.bind_eq_some_iff.mp H
    obtain ⟨t111, A70, H⟩ := H
    try dsimp only at H
    have A7 := Zs0.mk A70
    clear A70
    replace H := Option.bind_eq_some_iff.mp H
    obtain ⟨t112, A80, H⟩ := H
    try dsimp only at H
    have A8 := Zs0.mk A80
    clear A80
    replace H := Option.bind_eq_some_iff.mp H
    obtain ⟨t113, A90, H⟩ := H
    try dsimp only at H
    have A9 := Zs0.mk A90
    clear A90
    replace H := Option.bind_eq_some_iff.mp H
    obtain ⟨t114, A100, H⟩ := H
    try dsimp only at H
    have A10 := Zs0.mk A100
    clear A100
    replace H := Option.bind_eq_some_iff.mp H
    obtain ⟨t115, A110, H⟩ := H
    try dsimp only at H
    have A11 := Zs0.mk A110
    clear A110
    replace H := Option.bind_eq_some_iff.mp H
    obtain ⟨⟨t116, t117⟩, A120, H⟩ := H
    try dsimp only at H
    have A12 := Zs0.mk A120
    clear A120
    replace H := Option.bind_eq_some_iff.mp H
    obtain ⟨⟨t118, t119⟩, A130, H⟩ := H
    try dsimp only at H
    have A13 := Zs0.mk A130
    clear A130
    have c14 := ipos H
    rw [if_pos c14] at H
    have c14b0 : (t104 == t108) = true := beq_iff_eq.mpr c14
    have c14b1 : (t104 != t108) = false := bne_eq_false_iff_eq.mpr c14
    clear c14
    have c15 := ipos H
    rw [if_pos c15] at H
    have c15b0 : ((t103.length : Int) == (t107.length : Int)) = true := beq_iff_eq.mpr c15
    have c15b1 : ((t103.length : Int) != (t107.length : Int)) = false := bne_eq_false_iff_eq.mpr c15
    have c15b2 : (t103.length == t107.length) = true := by first | simpa using c15 | (simp at c15 ⊢; omega)
    clear c15
    replace H := Option.bind_eq_some_iff.mp H
    obtain ⟨t120, A160, H⟩ := H
    try dsimp only at H
    have A16 := Zs0.mk A160
    clear A160
    replace H := Option.bind_eq_some_iff.mp H
    obtain ⟨t121, A170, H⟩ := H
    try dsimp only at H
    have A17 := Zs0.mk A170
    clear A170
    by_cases c18 : (t120 != t121) = true
    · rw [if_pos c18] at H
      exact absurd H (by simp)
    · rw [if_neg c18] at H
      have c18b0 : (t120 != t121) = false := by simpa using c18
      (try (have c18b1 : decide (t120 = t121) = true := by simpa using c18))
      (try (have c18b2 : (t120 == t121) = true := by simpa using c18))
      clear c18
      replace H := Option.bind_eq_some_iff.mp H
      obtain ⟨t122, A190, H⟩ := H
      try dsimp only at H
      have A19 := Zs0.mk A190
      clear A190
      replace H := Option.bind_eq_some_iff.mp H
      obtain ⟨t123, A200, H⟩ := H
      try dsimp only at H
      have A20 := Zs0.mk A200
      clear A200
      by_cases c21 : (t122 != t123) = true
      · rw [if_pos c21] at H
        exact absurd H (by simp)
      · rw [if_neg c21] at H
        have c21b0 : (t122 != t123) = false := by simpa using c21
        (try (have c21b1 : decide (t122 = t123) = true := by simpa using c21))
        (try (have c21b2 : (t122 == t123) = true := by simpa using c21))
        clear c21
        replace H := Option.bind_eq_some_iff.mp H
        obtain ⟨t124, A220, H⟩ := H
        try dsimp only at H
        have A22 := Zs0.mk A220
        clear A220
        replace H := Option.bind_eq_some_iff.mp H
        obtain ⟨t125, A230, H⟩ := H
        try dsimp only at H
        have A23 := Zs0.mk A230
        clear A230
        have c24 := ipos H
        rw [if_pos c24] at H
        have c24b0 : (t124.toList == t125.toList) = true := beq_iff_eq.mpr c24
        have c24b1 : (t124.toList != t125.toList) = false := bne_eq_false_iff_eq.mpr c24
        clear c24
        have c25 := ipos H
        rw [if_pos c25] at H
        have c25b0 : (t116 == t118) = true := beq_iff_eq.mpr c25
        have c25b1 : (t116 != t118) = false := bne_eq_false_iff_eq.mpr c25
        clear c25
        by_cases c26 : (t117 != t119) = true
        · rw [if_pos c26] at H
          exact absurd H (by simp)
        · rw [if_neg c26] at H
          have c26b0 : (t117 != t119) = false := by simpa using c26
          (try (have c26b1 : decide (t117 = t119) = true := by simpa using c26))
          (try (have c26b2 : (t117 == t119) = true := by simpa using c26))
          clear c26
          replace H := Option.bind_eq_some_iff.mp H
          obtain ⟨t126, A270, H⟩ := H
          try dsimp only at H
          have A27 := Zs0.mk A270
          clear A270
          replace H := Option.bind_eq_some_iff.mp H
          obtain ⟨t129, A280, H⟩ := H
          try dsimp only at H
          have A28 := Zs0.mk A280
          clear A280
          replace H := Option.bind_eq_some_iff.mp H
          obtain ⟨t132, A290, H⟩ := H
          try dsimp only at H
          have A29 := Zs0.mk A290
          clear A290
          by_cases c30 : t132 = true
          · subst c30
            have H1 : (laws_FnLex.l0 k t102 t103 t104 t107 t112 t114 t116 t117 0) = some r := by rw [if_pos rfl] at H; exact H
            clear H
            have H := H1
            clear H1
            have H' := Zs0.mk H
            clear H
            go_enter Tryd.func9, Tryd.ntmps9
            go_wp2_with (first | (go_at_call 32; (with_reducible refine (laws_big.calls _ _ l0 false _ ?side1 ?side2 A2.out).mono ?_); (case side1 => repeat (first | exact HR0.out | (with_reducible refine Kd.C_alloc ?_ _) | (with_reducible refine Kd.C_drewN ?_ _) | (with_reducible refine Kd.C_drew ?_))); (case side2 => exact HC0.out); rintro e w' ⟨rfl, ⟨nd, rfl⟩⟩; (try first | exact ⟨rfl, _, World.drewN_drewN _ _ _⟩ | exact ⟨rfl, _, Eq.trans (World.drewN_drewN _ _ _) (congrArg (World.drewN _) (Nat.add_assoc _ _ _))⟩)) | (go_at_call 33; (with_reducible refine (spec_DrawLex.calls k _ _ l0 t102 _ ?side1 ?side2 A4.out).mono ?_); (case side1 => repeat (first | exact HR0.out | (with_reducible refine Kd.C_alloc ?_ _) | (with_reducible refine Kd.C_drewN ?_ _) | (with_reducible refine Kd.C_drew ?_))); (case side2 => exact HC0.out); rintro e w31 ⟨rfl, hb⟩; have n0_ := Zs0.mk (blT (by repeat (first | (with_reducible first | exact HB.out | apply blA | apply pbN | apply bl1) | exact HB.out)) hb); clear HB; have HB := n0_; clear n0_; (try clear hb); (try clear hb2); (try clear hk); (try clear hi)) | (go_at_call 28; (with_reducible refine (impl_Lex.calls k t102 t103 t104 _ A5.out (tabEB (tabAE HT.out) (by repeat (first | (with_reducible first | exact HB.out | apply blA | apply pbN | apply bl1) | exact HB.out)))).mono ?_); rintro e w32 ⟨v105, rfl, ho0, hb⟩; have n0_ := Zs0.mk (Kd.R_lower ho0 (blZ (by repeat (first | (with_reducible first | exact HB.out | apply blA | apply pbN | apply bl1) | exact HB.out)))); have n1_ := Zs0.mk (blT (by repeat (first | (with_reducible first | exact HB.out | apply blA | apply pbN | apply bl1) | exact HB.out)) hb); clear HB; have HO106 := n0_; have HB := n1_; clear n0_ n1_; (try clear hb); (try clear hb2); (try clear hk); (try clear hi); (try clear ho0)) | (go_at_call 27; (with_reducible refine (spec_Lex.calls k t102 t107 t108 _ A6.out).mono ?_); rintro e w33 ⟨v109, rfl, ho0, hb⟩; have n0_ := Zs0.mk (Kd.R_elder' (by (with_reducible repeat (first | apply Kd.R_alloc | apply Kd.R_drewN | apply Kd.R_drew)); exact HO106.out) (Kd.R_base ho0) hb); have n1_ := Zs0.mk (Kd.R_lower (Kd.R_new' ho0 (Kd.R_lt (by (with_reducible repeat (first | apply Kd.R_alloc | apply Kd.R_drewN | apply Kd.R_drew)); exact HO106.out))) (blZ (by repeat (first | (with_reducible first | exact HB.out | apply blA | apply pbN | apply bl1) | exact HB.out)))); have n2_ := Zs0.mk (blT (by repeat (first | (with_reducible first | exact HB.out | apply blA | apply pbN | apply bl1) | exact HB.out)) hb); clear HO106; clear HB; have HO106 := n0_; have HO110 := n1_; have HB := n2_; clear n0_ n1_ n2_; (try clear hb); (try clear hb2); (try clear hk); (try clear hi); (try clear ho0)) | (go_at_call 34; (with_reducible refine (spec_DrawIsWord.calls k _ _ l0 t111 _ ?side1 ?side2 A7.out).mono ?_); (case side1 => repeat (first | exact (Kd.C_below HR0.out HB.out) | (with_reducible refine Kd.C_alloc ?_ _) | (with_reducible refine Kd.C_drewN ?_ _) | (with_reducible refine Kd.C_drew ?_))); (case side2 => exact HC0.out); rintro e w34 ⟨rfl, hb⟩; have n0_ := Zs0.mk (Kd.R_below (by (with_reducible repeat (first | apply Kd.R_alloc | apply Kd.R_drewN | apply Kd.R_drew)); exact HO106.out) hb); have n1_ := Zs0.mk (Kd.R_below (by (with_reducible repeat (first | apply Kd.R_alloc | apply Kd.R_drewN | apply Kd.R_drew)); exact HO110.out) hb); have n2_ := Zs0.mk (blT (by repeat (first | (with_reducible first | exact HB.out | apply blA | apply pbN | apply bl1) | exact HB.out)) hb); clear HO106; clear HO110; clear HB; have HO106 := n0_; have HO110 := n1_; have HB := n2_; clear n0_ n1_ n2_; (try clear hb); (try clear hb2); (try clear hk); (try clear hi)) | (go_at_call 35; (with_reducible refine (spec_DrawNameOk.calls k _ _ l0 t112 _ ?side1 ?side2 A8.out).mono ?_); (case side1 => repeat (first | exact (Kd.C_below HR0.out HB.out) | (with_reducible refine Kd.C_alloc ?_ _) | (with_reducible refine Kd.C_drewN ?_ _) | (with_reducible refine Kd.C_drew ?_))); (case side2 => exact HC0.out); rintro e w35 ⟨rfl, hb⟩; have n0_ := Zs0.mk (Kd.R_below (by (with_reducible repeat (first | apply Kd.R_alloc | apply Kd.R_drewN | apply Kd.R_drew)); exact HO106.out) hb); have n1_ := Zs0.mk (Kd.R_below (by (with_reducible repeat (first | apply Kd.R_alloc | apply Kd.R_drewN | apply Kd.R_drew)); exact HO110.out) hb); have n2_ := Zs0.mk (blT (by repeat (first | (with_reducible first | exact HB.out | apply blA | apply pbN | apply bl1) | exact HB.out)) hb); clear HO106; clear HO110; clear HB; have HO106 := n0_; have HO110 := n1_; have HB := n2_; clear n0_ n1_ n2_; (try clear hb); (try clear hb2); (try clear hk); (try clear hi)) | (go_at_call 36; (with_reducible refine (spec_DrawDecText.calls k _ _ l0 t113 _ ?side1 ?side2 A9.out).mono ?_); (case side1 => repeat (first | exact (Kd.C_below HR0.out HB.out) | (with_reducible refine Kd.C_alloc ?_ _) | (with_reducible refine Kd.C_drewN ?_ _) | (with_reducible refine Kd.C_drew ?_))); (case side2 => exact HC0.out); rintro e w36 ⟨rfl, hb⟩; have n0_ := Zs0.mk (Kd.R_below (by (with_reducible repeat (first | apply Kd.R_alloc | apply Kd.R_drewN | apply Kd.R_drew)); exact HO106.out) hb); have n1_ := Zs0.mk (Kd.R_below (by (with_reducible repeat (first | apply Kd.R_alloc | apply Kd.R_drewN | apply Kd.R_drew)); exact HO110.out) hb); have n2_ := Zs0.mk (blT (by repeat (first | (with_reducible first | exact HB.out | apply blA | apply pbN | apply bl1) | exact HB.out)) hb); clear HO106; clear HO110; clear HB; have HO106 := n0_; have HO110 := n1_; have HB := n2_; clear n0_ n1_ n2_; (try clear hb); (try clear hb2); (try clear hk); (try clear hi)) | (go_at_call 37; (with_reducible refine (spec_DrawReadInt.calls k _ _ l0 t114 _ ?side1 ?side2 A10.out).mono ?_); (case side1 => repeat (first | exact (Kd.C_below HR0.out HB.out) | (with_reducible refine Kd.C_alloc ?_ _) | (with_reducible refine Kd.C_drewN ?_ _) | (with_reducible refine Kd.C_drew ?_))); (case side2 => exact HC0.out); rintro e w37 ⟨rfl, hb⟩; have n0_ := Zs0.mk (Kd.R_below (by (with_reducible repeat (first | apply Kd.R_alloc | apply Kd.R_drewN | apply Kd.R_drew)); exact HO106.out) hb); have n1_ := Zs0.mk (Kd.R_below (by (with_reducible repeat (first | apply Kd.R_alloc | apply Kd.R_drewN | apply Kd.R_drew)); exact HO110.out) hb); have n2_ := Zs0.mk (blT (by repeat (first | (with_reducible first | exact HB.out | apply blA | apply pbN | apply bl1) | exact HB.out)) hb); clear HO106; clear HO110; clear HB; have HO106 := n0_; have HO110 := n1_; have HB := n2_; clear n0_ n1_ n2_; (try clear hb); (try clear hb2); (try clear hk); (try clear hi)) | (go_at_call 38; (with_reducible refine (spec_DrawWords.calls k _ _ l0 t115 _ ?side1 ?side2 A11.out).mono ?_); (case side1 => repeat (first | exact (Kd.C_below HR0.out HB.out) | (with_reducible refine Kd.C_alloc ?_ _) | (with_reducible refine Kd.C_drewN ?_ _) | (with_reducible refine Kd.C_drew ?_))); (case side2 => exact HC0.out); rintro e w38 ⟨rfl, hb⟩; have n0_ := Zs0.mk (Kd.R_below (by (with_reducible repeat (first | apply Kd.R_alloc | apply Kd.R_drewN | apply Kd.R_drew)); exact HO106.out) hb); have n1_ := Zs0.mk (Kd.R_below (by (with_reducible repeat (first | apply Kd.R_alloc | apply Kd.R_drewN | apply Kd.R_drew)); exact HO110.out) hb); have n2_ := Zs0.mk (blT (by repeat (first | (with_reducible first | exact HB.out | apply blA | apply pbN | apply bl1) | exact HB.out)) hb); clear HO106; clear HO110; clear HB; have HO106 := n0_; have HO110 := n1_; have HB := n2_; clear n0_ n1_ n2_; (try clear hb); (try clear hb2); (try clear hk); (try clear hi)) | (go_at_call 26; (with_reducible refine (impl_ReadInt.calls t114 t116 t117 _ A12.out (tabEB (tabAE HT.out) (by repeat (first | (with_reducible first | exact HB.out | apply blA | apply pbN | apply bl1) | exact HB.out)))).mono ?_); rintro e w39 ⟨rfl, hb⟩; have n0_ := Zs0.mk (Kd.R_below (by (with_reducible repeat (first | apply Kd.R_alloc | apply Kd.R_drewN | apply Kd.R_drew)); exact HO106.out) hb); have n1_ := Zs0.mk (Kd.R_below (by (with_reducible repeat (first | apply Kd.R_alloc | apply Kd.R_drewN | apply Kd.R_drew)); exact HO110.out) hb); have n2_ := Zs0.mk (blT (by repeat (first | (with_reducible first | exact HB.out | apply blA | apply pbN | apply bl1) | exact HB.out)) hb); clear HO106; clear HO110; clear HB; have HO106 := n0_; have HO110 := n1_; have HB := n2_; clear n0_ n1_ n2_; (try clear hb); (try clear hb2); (try clear hk); (try clear hi)) | (go_at_call 25; (with_reducible refine (spec_ReadInt.calls k t114 t118 t119 _ A13.out).mono ?_); rintro e w' ⟨rfl, ⟨nd, rfl⟩⟩; (try first | exact ⟨rfl, _, World.drewN_drewN _ _ _⟩ | exact ⟨rfl, _, Eq.trans (World.drewN_drewN _ _ _) (congrArg (World.drewN _) (Nat.add_assoc _ _ _))⟩); obtain ⟨Ao40, co40, eo40⟩ := Kd.R_slice HO106.out; subst eo40; obtain ⟨Ao41, co41, eo41⟩ := Kd.R_slice HO110.out; subst eo41) | (go_at_call 39; (with_reducible refine (impl_IsWord.calls k t111 t120 _ A16.out).mono ?_); rintro e w42 ⟨rfl, hb⟩; have n0_ := Zs0.mk (Kd.R_below (by (with_reducible repeat (first | apply Kd.R_alloc | apply Kd.R_drewN | apply Kd.R_drew)); exact HO106.out) hb); have n1_ := Zs0.mk (Kd.R_below (by (with_reducible repeat (first | apply Kd.R_alloc | apply Kd.R_drewN | apply Kd.R_drew)); exact HO110.out) hb); have n2_ := Zs0.mk (blT (by repeat (first | (with_reducible first | exact HB.out | apply blA | apply pbN | apply bl1) | exact HB.out)) hb); clear HO106; clear HO110; clear HB; have HO106 := n0_; have HO110 := n1_; have HB := n2_; clear n0_ n1_ n2_; (try clear hb); (try clear hb2); (try clear hk); (try clear hi)) | (go_at_call 40; (with_reducible refine (spec_IsWord.calls k t111 t121 _ A17.out).mono ?_); rintro e w43 ⟨rfl, hb⟩; have n0_ := Zs0.mk (Kd.R_below (by (with_reducible repeat (first | apply Kd.R_alloc | apply Kd.R_drewN | apply Kd.R_drew)); exact HO106.out) hb); have n1_ := Zs0.mk (Kd.R_below (by (with_reducible repeat (first | apply Kd.R_alloc | apply Kd.R_drewN | apply Kd.R_drew)); exact HO110.out) hb); have n2_ := Zs0.mk (blT (by repeat (first | (with_reducible first | exact HB.out | apply blA | apply pbN | apply bl1) | exact HB.out)) hb); clear HO106; clear HO110; clear HB; have HO106 := n0_; have HO110 := n1_; have HB := n2_; clear n0_ n1_ n2_; (try clear hb); (try clear hb2); (try clear hk); (try clear hi)) | (go_at_call 41; (with_reducible refine (impl_NameOk.calls k t112 t122 _ A19.out).mono ?_); rintro e w44 ⟨rfl, hb⟩; have n0_ := Zs0.mk (Kd.R_below (by (with_reducible repeat (first | apply Kd.R_alloc | apply Kd.R_drewN | apply Kd.R_drew)); exact HO106.out) hb); have n1_ := Zs0.mk (Kd.R_below (by (with_reducible repeat (first | apply Kd.R_alloc | apply Kd.R_drewN | apply Kd.R_drew)); exact HO110.out) hb); have n2_ := Zs0.mk (blT (by repeat (first | (with_reducible first | exact HB.out | apply blA | apply pbN | apply bl1) | exact HB.out)) hb); clear HO106; clear HO110; clear HB; have HO106 := n0_; have HO110 := n1_; have HB := n2_; clear n0_ n1_ n2_; (try clear hb); (try clear hb2); (try clear hk); (try clear hi)) | (go_at_call 42; (with_reducible refine (spec_NameOk.calls k t112 t123 _ A20.out).mono ?_); rintro e w45 ⟨rfl, hb⟩; have n0_ := Zs0.mk (Kd.R_below (by (with_reducible repeat (first | apply Kd.R_alloc | apply Kd.R_drewN | apply Kd.R_drew)); exact HO106.out) hb); have n1_ := Zs0.mk (Kd.R_below (by (with_reducible repeat (first | apply Kd.R_alloc | apply Kd.R_drewN | apply Kd.R_drew)); exact HO110.out) hb); have n2_ := Zs0.mk (blT (by repeat (first | (with_reducible first | exact HB.out | apply blA | apply pbN | apply bl1) | exact HB.out)) hb); clear HO106; clear HO110; clear HB; have HO106 := n0_; have HO110 := n1_; have HB := n2_; clear n0_ n1_ n2_; (try clear hb); (try clear hb2); (try clear hk); (try clear hi)) | (go_at_call 11; (with_reducible refine (impl_DecText.calls t113 t124 _ A22.out (tabB (tabAT HT.out) (by repeat (first | (with_reducible first | exact HB.out | apply blA | apply pbN | apply bl1) | exact HB.out)))).mono ?_); rintro e w46 ⟨rfl, hb⟩; have n0_ := Zs0.mk (Kd.R_below (by (with_reducible repeat (first | apply Kd.R_alloc | apply Kd.R_drewN | apply Kd.R_drew)); exact HO106.out) hb); have n1_ := Zs0.mk (Kd.R_below (by (with_reducible repeat (first | apply Kd.R_alloc | apply Kd.R_drewN | apply Kd.R_drew)); exact HO110.out) hb); have n2_ := Zs0.mk (blT (by repeat (first | (with_reducible first | exact HB.out | apply blA | apply pbN | apply bl1) | exact HB.out)) hb); clear HO106; clear HO110; clear HB; have HO106 := n0_; have HO110 := n1_; have HB := n2_; clear n0_ n1_ n2_; (try clear hb); (try clear hb2); (try clear hk); (try clear hi)) | (go_at_call 10; (with_reducible refine (spec_DecText.calls k t113 t125 _ A23.out).mono ?_); rintro e w' ⟨rfl, ⟨nd, rfl⟩⟩; (try first | exact ⟨rfl, _, World.drewN_drewN _ _ _⟩ | exact ⟨rfl, _, Eq.trans (World.drewN_drewN _ _ _) (congrArg (World.drewN _) (Nat.add_assoc _ _ _))⟩)) | (go_at_call 16; (with_reducible refine (impl_Words.calls t115 t126 _ A27.out (maxB (tabAM HT.out) (by repeat (first | (with_reducible first | exact HB.out | apply blA | apply pbN | apply bl1) | exact HB.out)))).mono ?_); rintro e w47 ⟨v127, rfl, ho0, hb⟩; have n0_ := Zs0.mk (Kd.R_below (by (with_reducible repeat (first | apply Kd.R_alloc | apply Kd.R_drewN | apply Kd.R_drew)); exact HO106.out) hb); have n1_ := Zs0.mk (Kd.R_below (by (with_reducible repeat (first | apply Kd.R_alloc | apply Kd.R_drewN | apply Kd.R_drew)); exact HO110.out) hb); have n2_ := Zs0.mk (Kd.R_lower ho0 (blZ (by repeat (first | (with_reducible first | exact HB.out | apply blA | apply pbN | apply bl1) | exact HB.out)))); have n3_ := Zs0.mk (blT (by repeat (first | (with_reducible first | exact HB.out | apply blA | apply pbN | apply bl1) | exact HB.out)) hb); clear HO106; clear HO110; clear HB; have HO106 := n0_; have HO110 := n1_; have HO128 := n2_; have HB := n3_; clear n0_ n1_ n2_ n3_; (try clear hb); (try clear hb2); (try clear hk); (try clear hi); (try clear ho0)) | (go_at_call 15; (with_reducible refine (spec_Words.calls k t115 t129 _ A28.out).mono ?_); rintro e w48 ⟨v130, rfl, ho0, hb⟩; have n0_ := Zs0.mk (Kd.R_below (by (with_reducible repeat (first | apply Kd.R_alloc | apply Kd.R_drewN | apply Kd.R_drew)); exact HO106.out) hb); have n1_ := Zs0.mk (Kd.R_below (by (with_reducible repeat (first | apply Kd.R_alloc | apply Kd.R_drewN | apply Kd.R_drew)); exact HO110.out) hb); have n2_ := Zs0.mk (Kd.R_elder' (by (with_reducible repeat (first | apply Kd.R_alloc | apply Kd.R_drewN | apply Kd.R_drew)); exact HO128.out) (Kd.R_base ho0) hb); have n3_ := Zs0.mk (Kd.R_lower (Kd.R_new' ho0 (Kd.R_lt (by (with_reducible repeat (first | apply Kd.R_alloc | apply Kd.R_drewN | apply Kd.R_drew)); exact HO128.out))) (blZ (by repeat (first | (with_reducible first | exact HB.out | apply blA | apply pbN | apply bl1) | exact HB.out)))); have n4_ := Zs0.mk (blT (by repeat (first | (with_reducible first | exact HB.out | apply blA | apply pbN | apply bl1) | exact HB.out)) hb); clear HO106; clear HO110; clear HO128; clear HB; have HO106 := n0_; have HO110 := n1_; have HO128 := n2_; have HO131 := n3_; have HB := n4_; clear n0_ n1_ n2_ n3_ n4_; (try clear hb); (try clear hb2); (try clear hk); (try clear hi); (try clear ho0); obtain ⟨Ao49, co49, eo49⟩ := Kd.R_slice HO128.out; subst eo49; obtain ⟨Ao50, co50, eo50⟩ := Kd.R_slice HO131.out; subst eo50) | (go_at_call 43; (with_reducible refine (laws_sameTexts.calls k _ _ t126 _ _ t129 true _ ?side1 ?side2 ?side3 ?side4 A29.out).mono ?_); (case side1 => repeat (first | exact (Kd.R_reads' HO128.out).2.2 | (with_reducible refine Kd.C_alloc ?_ _) | (with_reducible refine Kd.C_drewN ?_ _) | (with_reducible refine Kd.C_drew ?_))); (case side2 => exact (Kd.R_reads' HO128.out).2.1); (case side3 => repeat (first | exact (Kd.R_reads' HO131.out).2.2 | (with_reducible refine Kd.C_alloc ?_ _) | (with_reducible refine Kd.C_drewN ?_ _) | (with_reducible refine Kd.C_drew ?_))); (case side4 => exact (Kd.R_reads' HO131.out).2.1); rintro e w' ⟨rfl, ⟨nd, rfl⟩⟩; (try first | exact ⟨rfl, _, World.drewN_drewN _ _ _⟩ | exact ⟨rfl, _, Eq.trans (World.drewN_drewN _ _ _) (congrArg (World.drewN _) (Nat.add_assoc _ _ _))⟩)))
            go_loopg [17] k (fun kq v17 w' => ∃ (x17_1 : Int), v17 = .int .i64 x17_1 ∧ Zs0 (laws_FnLex.l0 kq t102 t103 t104 t107 t112 t114 t116 t117 x17_1 = some r) ∧ Zs0 (kq ≤ k) ∧ Zs0 (Kd.R k56 56 w' w.heap.size (fun k_ => some k_ ≠ ((.slice Ao41 t107.length co41) : Value).ownBlock) (.slice Ao40 t103.length co40) t103) ∧ Zs0 (Kd.R k56 56 w' w.heap.size (fun k_ => some k_ ≠ ((.slice Ao40 t103.length co40) : Value).ownBlock) (.slice Ao41 t107.length co41) t107) ∧ Zs0 (Below w.heap.size w w'))
            case atStart => exact ⟨(0), (by first | rfl | (simp; done) | (simp [*]; done)), H', ⟨Nat.le_refl _⟩, ⟨by (with_reducible repeat (first | apply Kd.R_alloc | apply Kd.R_drewN | apply Kd.R_drew)); exact Kd.R_mono HO106.out (fun _ hk => hk.2)⟩, ⟨by (with_reducible repeat (first | apply Kd.R_alloc | apply Kd.R_drewN | apply Kd.R_drew)); exact Kd.R_mono HO110.out (fun _ hk => hk.2)⟩, ⟨by repeat (first | (with_reducible first | exact HB.out | apply blA | apply pbN | apply bl1) | exact HB.out)⟩⟩
            case round =>
              clear H'
              try clear c1
              try clear c2
              try clear p2
              try clear c3
              try clear c9
              try clear c14
              try clear c14b0
              try clear c14b1
              try clear c15
              try clear c15b0
              try clear c15b1
              try clear c15b2
              try clear c18
              try clear c18b0
              try clear c18b1
              try clear c18b2
              try clear c21
              try clear c21b0
              try clear c21b1
              try clear c21b2
              try clear c24
              try clear c24b0
              try clear c24b1
              try clear c25
              try clear c25b0
              try clear c25b1
              try clear c26
              try clear c26b0
              try clear c26b1
              try clear c26b2
              try clear c30
              obtain ⟨x17_1, rfl, HA, HK1, HO_4, HO_6, HB⟩ := hrel
              cases gk with
              | zero => exact absurd HA.out (by simp [laws_FnLex.l0])
              | succ k1 =>
                have H := HA.out
                clear HA
                simp only [laws_FnLex.l0] at H
                by_cases c51 : x17_1 < (t103.length : Int)
                · rw [if_pos c51] at H
                  have c51b0 : decide (x17_1 < (t103.length : Int)) = true := decide_eq_true c51
                  clear c51
                  have c52 := ipos H
                  rw [if_pos c52] at H
                  have c52b0 := decide_eq_true c52
                  clear c52
                  have c53 := ipos H
                  rw [if_pos c53] at H
                  have c53b0 := decide_eq_true c53
                  clear c53
                  by_cases c54 : (!(((rd_T56 t103 x17_1).f0) == ((rd_T56 t107 x17_1).f0)) || (!((((rd_T56 t103 x17_1).f1).toList) == (((rd_T56 t107 x17_1).f1).toList)) || (!(((rd_T56 t103 x17_1).f2) == ((rd_T56 t107 x17_1).f2)) || (!(((rd_T56 t103 x17_1).f3) == ((rd_T56 t107 x17_1).f3)))))) = true
                  · rw [if_pos c54] at H
                    have c54b0 : (!(((rd_T56 t103 x17_1).f0) == ((rd_T56 t107 x17_1).f0)) || (!((((rd_T56 t103 x17_1).f1).toList) == (((rd_T56 t107 x17_1).f1).toList)) || (!(((rd_T56 t103 x17_1).f2) == ((rd_T56 t107 x17_1).f2)) || (!(((rd_T56 t103 x17_1).f3) == ((rd_T56 t107 x17_1).f3)))))) = true := c54
                    clear c54
                    obtain rfl := Option.some.inj H
                    have p133 : 0 ≤ (x17_1 : Int) := of_decide_eq_true (by first | (with_reducible assumption) | assumption)
                    have q133 : x17_1 < (t103.length : Int) := of_decide_eq_true (by first | (with_reducible assumption) | assumption)
                    obtain ⟨ad133, e133, hx133_0, hx133_1, hx133_2, hx133_3⟩ := at_T56 (Kd.R_reads' HO_4.out).2.2 x17_1 p133 q133
                    cases e133
                    replace p133 := eq_true p133
                    replace q133 := eq_true q133
                    have p134 : 0 ≤ (x17_1 : Int) := of_decide_eq_true (by first | (with_reducible assumption) | assumption)
                    have q134 : x17_1 < (t107.length : Int) := of_decide_eq_true (by first | (with_reducible assumption) | assumption)
                    obtain ⟨ad134, e134, hx134_0, hx134_1, hx134_2, hx134_3⟩ := at_T56 (Kd.R_reads' HO_6.out).2.2 x17_1 p134 q134
                    cases e134
                    replace p134 := eq_true p134
                    replace q134 := eq_true q134
                    go_wp2
                    repeat (go_quiet (fail); try go_wp2)
                    go_ret
                    exact ⟨by first | rfl | (simp [eWn, eWs] <;> rfl) | (simp [*, eWn, eWs] <;> rfl), by repeat (first | (with_reducible first | exact HB.out | apply blA | apply pbN | apply bl1) | exact HB.out)⟩
                  · rw [if_neg c54] at H
                    have c54b0 : (!(((rd_T56 t103 x17_1).f0) == ((rd_T56 t107 x17_1).f0)) || (!((((rd_T56 t103 x17_1).f1).toList) == (((rd_T56 t107 x17_1).f1).toList)) || (!(((rd_T56 t103 x17_1).f2) == ((rd_T56 t107 x17_1).f2)) || (!(((rd_T56 t103 x17_1).f3) == ((rd_T56 t107 x17_1).f3)))))) = false := by simpa using c54
                    clear c54
                    by_cases c55 : x17_1 > 0
                    · rw [if_pos c55] at H
                      have c55b0 : decide (0 < x17_1) = true := decide_eq_true c55
                      clear c55
                      obtain ⟨ji56, hji56⟩ : ∃ j_ : Int, (wrap64 (x17_1 - 1)) = j_ := ⟨_, rfl⟩
                      replace H : (if 0 ≤ (ji56) then (if (ji56) < (t103.length : Int) then (if ((rd_T56 t103 x17_1).f3) < ((rd_T56 t103 (ji56)).f3) then (some false) else (laws_FnLex.l0 k1 t102 t103 t104 t107 t112 t114 t116 t117 (wrap64 (x17_1 + 1)))) else (none)) else (none)) = some r := by first | (rw [hji56] at H; exact H) | (simp only [hji56] at H ⊢; exact H)
                      have hji56w : (IntKind.i64.wrap (x17_1 - 1)) = ji56 := (i64_w _).trans hji56
                      have c57 := ipos H
                      rw [if_pos c57] at H
                      have c57b0 := decide_eq_true c57
                      clear c57
                      have c58 := ipos H
                      rw [if_pos c58] at H
                      have c58b0 := decide_eq_true c58
                      clear c58
                      by_cases c59 : ((rd_T56 t103 x17_1).f3) < ((rd_T56 t103 (ji56)).f3)
                      · rw [if_pos c59] at H
                        have c59b0 : decide (((rd_T56 t103 x17_1).f3) < ((rd_T56 t103 (ji56)).f3)) = true := decide_eq_true c59
                        clear c59
                        obtain rfl := Option.some.inj H
                        have p133 : 0 ≤ (x17_1 : Int) := of_decide_eq_true (by first | (with_reducible assumption) | assumption)
                        have q133 : x17_1 < (t103.length : Int) := of_decide_eq_true (by first | (with_reducible assumption) | assumption)
                        obtain ⟨ad133, e133, hx133_0, hx133_1, hx133_2, hx133_3⟩ := at_T56 (Kd.R_reads' HO_4.out).2.2 x17_1 p133 q133
                        cases e133
                        replace p133 := eq_true p133
                        replace q133 := eq_true q133
                        have p134 : 0 ≤ (x17_1 : Int) := of_decide_eq_true (by first | (with_reducible assumption) | assumption)
                        have q134 : x17_1 < (t107.length : Int) := of_decide_eq_true (by first | (with_reducible assumption) | assumption)
                        obtain ⟨ad134, e134, hx134_0, hx134_1, hx134_2, hx134_3⟩ := at_T56 (Kd.R_reads' HO_6.out).2.2 x17_1 p134 q134
                        cases e134
                        replace p134 := eq_true p134
                        replace q134 := eq_true q134
                        have p135 : 0 ≤ (x17_1 : Int) := of_decide_eq_true (by first | (with_reducible assumption) | assumption)
                        have q135 : x17_1 < (t103.length : Int) := of_decide_eq_true (by first | (with_reducible assumption) | assumption)
                        obtain ⟨ad135, e135, hx135_0, hx135_1, hx135_2, hx135_3⟩ := at_T56 (Kd.R_reads' HO_4.out).2.2 x17_1 p135 q135
                        obtain rfl : ad133 = ad135 := (by injection e135)
                        replace p135 := eq_true p135
                        replace q135 := eq_true q135
                        have p136 : 0 ≤ ((ji56) : Int) := of_decide_eq_true (by first | (with_reducible assumption) | assumption)
                        have q136 : (ji56) < (t103.length : Int) := of_decide_eq_true (by first | (with_reducible assumption) | assumption)
                        obtain ⟨ad136, e136, hx136_0, hx136_1, hx136_2, hx136_3⟩ := at_T56 (Kd.R_reads' HO_4.out).2.2 (ji56) p136 q136
                        obtain rfl : ad133 = ad136 := (by injection e136)
                        replace p136 := eq_true p136
                        replace q136 := eq_true q136
                        go_wp2
                        repeat (go_quiet (fail); try go_wp2)
                        go_ret
                        exact ⟨by first | rfl | (simp [eWn, eWs] <;> rfl) | (simp only [← hji56]; first | rfl | (simp [eWn, eWs] <;> rfl)) | (simp [*, eWn, eWs] <;> rfl), by repeat (first | (with_reducible first | exact HB.out | apply blA | apply pbN | apply bl1) | exact HB.out)⟩
                      · rw [if_neg c59] at H
                        have c59b0 : decide (((rd_T56 t103 x17_1).f3) < ((rd_T56 t103 (ji56)).f3)) = false := decide_eq_false c59
                        clear c59
                        have H' := Zs0.mk H
                        clear H
                        have p133 : 0 ≤ (x17_1 : Int) := of_decide_eq_true (by first | (with_reducible assumption) | assumption)
                        have q133 : x17_1 < (t103.length : Int) := of_decide_eq_true (by first | (with_reducible assumption) | assumption)
                        obtain ⟨ad133, e133, hx133_0, hx133_1, hx133_2, hx133_3⟩ := at_T56 (Kd.R_reads' HO_4.out).2.2 x17_1 p133 q133
                        cases e133
                        replace p133 := eq_true p133
                        replace q133 := eq_true q133
                        have p134 : 0 ≤ (x17_1 : Int) := of_decide_eq_true (by first | (with_reducible assumption) | assumption)
                        have q134 : x17_1 < (t107.length : Int) := of_decide_eq_true (by first | (with_reducible assumption) | assumption)
                        obtain ⟨ad134, e134, hx134_0, hx134_1, hx134_2, hx134_3⟩ := at_T56 (Kd.R_reads' HO_6.out).2.2 x17_1 p134 q134
                        cases e134
                        replace p134 := eq_true p134
                        replace q134 := eq_true q134
                        have p135 : 0 ≤ (x17_1 : Int) := of_decide_eq_true (by first | (with_reducible assumption) | assumption)
                        have q135 : x17_1 < (t103.length : Int) := of_decide_eq_true (by first | (with_reducible assumption) | assumption)
                        obtain ⟨ad135, e135, hx135_0, hx135_1, hx135_2, hx135_3⟩ := at_T56 (Kd.R_reads' HO_4.out).2.2 x17_1 p135 q135
                        obtain rfl : ad133 = ad135 := (by injection e135)
                        replace p135 := eq_true p135
                        replace q135 := eq_true q135
                        have p136 : 0 ≤ ((ji56) : Int) := of_decide_eq_true (by first | (with_reducible assumption) | assumption)
                        have q136 : (ji56) < (t103.length : Int) := of_decide_eq_true (by first | (with_reducible assumption) | assumption)
                        obtain ⟨ad136, e136, hx136_0, hx136_1, hx136_2, hx136_3⟩ := at_T56 (Kd.R_reads' HO_4.out).2.2 (ji56) p136 q136
                        obtain rfl : ad133 = ad136 := (by injection e136)
                        replace p136 := eq_true p136
                        replace q136 := eq_true q136
                        go_wp2
                        repeat (go_quiet (fail); try go_wp2)
                        go_roundg k1
                        case measure => have := HK1.out; omega
                        case rel => exact ⟨(wrap64 (x17_1 + 1)), (by first | rfl | (simp; done) | (simp [*]; done)), H', ⟨by have := HK1.out; omega⟩, ⟨by (with_reducible repeat (first | apply Kd.R_alloc | apply Kd.R_drewN | apply Kd.R_drew)); exact HO_4.out⟩, ⟨by (with_reducible repeat (first | apply Kd.R_alloc | apply Kd.R_drewN | apply Kd.R_drew)); exact HO_6.out⟩, ⟨by repeat (first | (with_reducible first | exact HB.out | apply blA | apply pbN | apply bl1) | exact HB.out)⟩⟩
                    · rw [if_neg c55] at H
                      have c55b0 : decide (0 < x17_1) = false := decide_eq_false c55
                      clear c55
                      have H' := Zs0.mk H
                      clear H
                      have p133 : 0 ≤ (x17_1 : Int) := of_decide_eq_true (by first | (with_reducible assumption) | assumption)
                      have q133 : x17_1 < (t103.length : Int) := of_decide_eq_true (by first | (with_reducible assumption) | assumption)
                      obtain ⟨ad133, e133, hx133_0, hx133_1, hx133_2, hx133_3⟩ := at_T56 (Kd.R_reads' HO_4.out).2.2 x17_1 p133 q133
                      cases e133
                      replace p133 := eq_true p133
                      replace q133 := eq_true q133
                      have p134 : 0 ≤ (x17_1 : Int) := of_decide_eq_true (by first | (with_reducible assumption) | assumption)
                      have q134 : x17_1 < (t107.length : Int) := of_decide_eq_true (by first | (with_reducible assumption) | assumption)
                      obtain ⟨ad134, e134, hx134_0, hx134_1, hx134_2, hx134_3⟩ := at_T56 (Kd.R_reads' HO_6.out).2.2 x17_1 p134 q134
                      cases e134
                      replace p134 := eq_true p134
                      replace q134 := eq_true q134
                      go_wp2
                      repeat (go_quiet (fail); try go_wp2)
                      go_roundg k1
                      case measure => have := HK1.out; omega
                      case rel => exact ⟨(wrap64 (x17_1 + 1)), (by first | rfl | (simp; done) | (simp [*]; done)), H', ⟨by have := HK1.out; omega⟩, ⟨by (with_reducible repeat (first | apply Kd.R_alloc | apply Kd.R_drewN | apply Kd.R_drew)); exact HO_4.out⟩, ⟨by (with_reducible repeat (first | apply Kd.R_alloc | apply Kd.R_drewN | apply Kd.R_drew)); exact HO_6.out⟩, ⟨by repeat (first | (with_reducible first | exact HB.out | apply blA | apply pbN | apply bl1) | exact HB.out)⟩⟩
                · rw [if_neg c51] at H
                  have c51b0 : decide (x17_1 < (t103.length : Int)) = false := decide_eq_false c51
                  clear c51
                  by_cases c60 : t117 = true
                  · subst c60
                    have H1 : ((impl_DecText.f t116).bind fun t137 => (if t137.toList = t114.toList then ((impl_IsWord.f k1 t112).bind fun t138 => (if t138 = true then ((impl_NameOk.f k1 t112).bind fun t139 => (if t139 = true then (some false) else (if t104 = 0 then (if (t102.size : Int) > 2997 then (some true) else (if t102.size + 3 ≤ 9223372036854775807 then ((impl_Lex.f k1 (t102 ++ (⟨#[32, 10, 32]⟩ : ByteArray))).bind fun bt140 => (if bt140.2 = 0 then (some ((bt140.1.length : Int) == (t103.length : Int))) else (some false))) else (none))) else (some ((t103.length : Int) == 0))))) else (if t104 = 0 then (if (t102.size : Int) > 2997 then (some true) else (if t102.size + 3 ≤ 9223372036854775807 then ((impl_Lex.f k1 (t102 ++ (⟨#[32, 10, 32]⟩ : ByteArray))).bind fun bt144 => (if bt144.2 = 0 then (some ((bt144.1.length : Int) == (t103.length : Int))) else (some false))) else (none))) else (some ((t103.length : Int) == 0))))) else (some false))) = some r := by rw [if_pos rfl] at H; exact H
                    clear H
                    have H := H1
                    clear H1
                    replace H := Option.bind_eq_some_iff.mp H
                    obtain ⟨t137, A610, H⟩ := H
                    try dsimp only at H
                    have A61 := Zs0.mk A610
                    clear A610
                    by_cases c62 : t137.toList = t114.toList
                    · rw [if_pos c62] at H
                      have c62b0 : (t137.toList == t114.toList) = true := beq_iff_eq.mpr c62
                      have c62b1 : (t137.toList != t114.toList) = false := bne_eq_false_iff_eq.mpr c62
                      clear c62
                      replace H := Option.bind_eq_some_iff.mp H
                      obtain ⟨t138, A630, H⟩ := H
                      try dsimp only at H
                      have A63 := Zs0.mk A630
                      clear A630
                      by_cases c64 : t138 = true
                      · subst c64
                        have H1 : ((impl_NameOk.f k1 t112).bind fun t139 => (if t139 = true then (some false) else (if t104 = 0 then (if (t102.size : Int) > 2997 then (some true) else (if t102.size + 3 ≤ 9223372036854775807 then ((impl_Lex.f k1 (t102 ++ (⟨#[32, 10, 32]⟩ : ByteArray))).bind fun bt140 => (if bt140.2 = 0 then (some ((bt140.1.length : Int) == (t103.length : Int))) else (some false))) else (none))) else (some ((t103.length : Int) == 0))))) = some r := by rw [if_pos rfl] at H; exact H
                        clear H
                        have H := H1
                        clear H1
                        replace H := Option.bind_eq_some_iff.mp H
                        obtain ⟨t139, A650, H⟩ := H
                        try dsimp only at H
                        have A65 := Zs0.mk A650
                        clear A650
                        by_cases c66 : t139 = true
                        · subst c66
                          have H1 : (some false) = some r := by rw [if_pos rfl] at H; exact H
                          clear H
                          have H := H1
                          clear H1
                          obtain rfl := Option.some.inj H
                          go_wp2_with (first | (go_at_call 11; (with_reducible refine (impl_DecText.calls t116 t137 _ A61.out (tabB (tabAT HT.out) (by repeat (first | (with_reducible first | exact HB.out | apply blA | apply pbN | apply bl1) | exact HB.out)))).mono ?_); rintro e w67 ⟨rfl, hb⟩; have n0_ := Zs0.mk (Kd.R_below (by (with_reducible repeat (first | apply Kd.R_alloc | apply Kd.R_drewN | apply Kd.R_drew)); exact HO_4.out) hb); have n1_ := Zs0.mk (Kd.R_below (by (with_reducible repeat (first | apply Kd.R_alloc | apply Kd.R_drewN | apply Kd.R_drew)); exact HO_6.out) hb); have n2_ := Zs0.mk (blT (by repeat (first | (with_reducible first | exact HB.out | apply blA | apply pbN | apply bl1) | exact HB.out)) hb); clear HO_4; clear HO_6; clear HB; have HO_4 := n0_; have HO_6 := n1_; have HB := n2_; clear n0_ n1_ n2_; (try clear hb); (try clear hb2); (try clear hk); (try clear hi)) | (go_at_call 39; (with_reducible refine (impl_IsWord.calls k1 t112 true _ A63.out).mono ?_); rintro e w68 ⟨rfl, hb⟩; have n0_ := Zs0.mk (Kd.R_below (by (with_reducible repeat (first | apply Kd.R_alloc | apply Kd.R_drewN | apply Kd.R_drew)); exact HO_4.out) hb); have n1_ := Zs0.mk (Kd.R_below (by (with_reducible repeat (first | apply Kd.R_alloc | apply Kd.R_drewN | apply Kd.R_drew)); exact HO_6.out) hb); have n2_ := Zs0.mk (blT (by repeat (first | (with_reducible first | exact HB.out | apply blA | apply pbN | apply bl1) | exact HB.out)) hb); clear HO_4; clear HO_6; clear HB; have HO_4 := n0_; have HO_6 := n1_; have HB := n2_; clear n0_ n1_ n2_; (try clear hb); (try clear hb2); (try clear hk); (try clear hi)) | (go_at_call 41; (with_reducible refine (impl_NameOk.calls k1 t112 true _ A65.out).mono ?_); rintro e w69 ⟨rfl, hb⟩; have n0_ := Zs0.mk (Kd.R_below (by (with_reducible repeat (first | apply Kd.R_alloc | apply Kd.R_drewN | apply Kd.R_drew)); exact HO_4.out) hb); have n1_ := Zs0.mk (Kd.R_below (by (with_reducible repeat (first | apply Kd.R_alloc | apply Kd.R_drewN | apply Kd.R_drew)); exact HO_6.out) hb); have n2_ := Zs0.mk (blT (by repeat (first | (with_reducible first | exact HB.out | apply blA | apply pbN | apply bl1) | exact HB.out)) hb); clear HO_4; clear HO_6; clear HB; have HO_4 := n0_; have HO_6 := n1_; have HB := n2_; clear n0_ n1_ n2_; (try clear hb); (try clear hb2); (try clear hk); (try clear hi)))
                          go_ret
                          exact ⟨by first | rfl | (simp [eWn, eWs] <;> rfl) | (simp [*, eWn, eWs] <;> rfl), by repeat (first | (with_reducible first | exact HB.out | apply blA | apply pbN | apply bl1) | exact HB.out)⟩
                        · replace c66 := Bool.eq_false_iff.mpr c66
                          subst c66
                          have H1 : (if t104 = 0 then (if (t102.size : Int) > 2997 then (some true) else (if t102.size + 3 ≤ 9223372036854775807 then ((impl_Lex.f k1 (t102 ++ (⟨#[32, 10, 32]⟩ : ByteArray))).bind fun bt140 => (if bt140.2 = 0 then (some ((bt140.1.length : Int) == (t103.length : Int))) else (some false))) else (none))) else (some ((t103.length : Int) == 0))) = some r := by rw [if_neg (show ¬ (false = true) by decide)] at H; exact H
                          clear H
                          have H := H1
                          clear H1
                          by_cases c70 : t104 = 0
                          · rw [if_pos c70] at H
                            have c70b0 : (t104 == 0) = true := beq_iff_eq.mpr c70
                            have c70b1 : (t104 != 0) = false := bne_eq_false_iff_eq.mpr c70
                            clear c70
                            by_cases c71 : (t102.size : Int) > 2997
                            · rw [if_pos c71] at H
                              have c71b0 : decide (2997 < (t102.size : Int)) = true := decide_eq_true c71
                              have c71b1 : decide (2997 < t102.size) = true := decide_eq_true (by omega)
                              clear c71
                              obtain rfl := Option.some.inj H
                              go_wp2_with (first | (go_at_call 11; (with_reducible refine (impl_DecText.calls t116 t137 _ A61.out (tabB (tabAT HT.out) (by repeat (first | (with_reducible first | exact HB.out | apply blA | apply pbN | apply bl1) | exact HB.out)))).mono ?_); rintro e w72 ⟨rfl, hb⟩; have n0_ := Zs0.mk (Kd.R_below (by (with_reducible repeat (first | apply Kd.R_alloc | apply Kd.R_drewN | apply Kd.R_drew)); exact HO_4.out) hb); have n1_ := Zs0.mk (Kd.R_below (by (with_reducible repeat (first | apply Kd.R_alloc | apply Kd.R_drewN | apply Kd.R_drew)); exact HO_6.out) hb); have n2_ := Zs0.mk (blT (by repeat (first | (with_reducible first | exact HB.out | apply blA | apply pbN | apply bl1) | exact HB.out)) hb); clear HO_4; clear HO_6; clear HB; have HO_4 := n0_; have HO_6 := n1_; have HB := n2_; clear n0_ n1_ n2_; (try clear hb); (try clear hb2); (try clear hk); (try clear hi)) | (go_at_call 39; (with_reducible refine (impl_IsWord.calls k1 t112 true _ A63.out).mono ?_); rintro e w73 ⟨rfl, hb⟩; have n0_ := Zs0.mk (Kd.R_below (by (with_reducible repeat (first | apply Kd.R_alloc | apply Kd.R_drewN | apply Kd.R_drew)); exact HO_4.out) hb); have n1_ := Zs0.mk (Kd.R_below (by (with_reducible repeat (first | apply Kd.R_alloc | apply Kd.R_drewN | apply Kd.R_drew)); exact HO_6.out) hb); have n2_ := Zs0.mk (blT (by repeat (first | (with_reducible first | exact HB.out | apply blA | apply pbN | apply bl1) | exact HB.out)) hb); clear HO_4; clear HO_6; clear HB; have HO_4 := n0_; have HO_6 := n1_; have HB := n2_; clear n0_ n1_ n2_; (try clear hb); (try clear hb2); (try clear hk); (try clear hi)) | (go_at_call 41; (with_reducible refine (impl_NameOk.calls k1 t112 false _ A65.out).mono ?_); rintro e w74 ⟨rfl, hb⟩; have n0_ := Zs0.mk (Kd.R_below (by (with_reducible repeat (first | apply Kd.R_alloc | apply Kd.R_drewN | apply Kd.R_drew)); exact HO_4.out) hb); have n1_ := Zs0.mk (Kd.R_below (by (with_reducible repeat (first | apply Kd.R_alloc | apply Kd.R_drewN | apply Kd.R_drew)); exact HO_6.out) hb); have n2_ := Zs0.mk (blT (by repeat (first | (with_reducible first | exact HB.out | apply blA | apply pbN | apply bl1) | exact HB.out)) hb); clear HO_4; clear HO_6; clear HB; have HO_4 := n0_; have HO_6 := n1_; have HB := n2_; clear n0_ n1_ n2_; (try clear hb); (try clear hb2); (try clear hk); (try clear hi)))
                              go_ret
                              exact ⟨by first | rfl | (simp [eWn, eWs] <;> rfl) | (simp [*, eWn, eWs] <;> rfl), by repeat (first | (with_reducible first | exact HB.out | apply blA | apply pbN | apply bl1) | exact HB.out)⟩
                            · rw [if_neg c71] at H
                              have c71b0 : decide (2997 < (t102.size : Int)) = false := decide_eq_false c71
                              have c71b1 : decide (2997 < t102.size) = false := decide_eq_false (by omega)
                              clear c71
                              have c75 := ipos H
                              rw [if_pos c75] at H
                              have c75b0 := eq_true c75
                              have c75b1 := decide_eq_true c75
                              try have c75b2 := eq_false (Nat.not_lt.2 c75)
                              replace H := Option.bind_eq_some_iff.mp H
                              obtain ⟨⟨t140, t141⟩, A760, H⟩ := H
                              try dsimp only at H
                              have A76 := Zs0.mk A760
                              clear A760
                              by_cases c77 : t141 = 0
                              · rw [if_pos c77] at H
                                have c77b0 : (t141 == 0) = true := beq_iff_eq.mpr c77
                                have c77b1 : (t141 != 0) = false := bne_eq_false_iff_eq.mpr c77
                                clear c77
                                obtain rfl := Option.some.inj H
                                go_wp2_with (first | (go_at_call 11; (with_reducible refine (impl_DecText.calls t116 t137 _ A61.out (tabB (tabAT HT.out) (by repeat (first | (with_reducible first | exact HB.out | apply blA | apply pbN | apply bl1) | exact HB.out)))).mono ?_); rintro e w78 ⟨rfl, hb⟩; have n0_ := Zs0.mk (Kd.R_below (by (with_reducible repeat (first | apply Kd.R_alloc | apply Kd.R_drewN | apply Kd.R_drew)); exact HO_4.out) hb); have n1_ := Zs0.mk (Kd.R_below (by (with_reducible repeat (first | apply Kd.R_alloc | apply Kd.R_drewN | apply Kd.R_drew)); exact HO_6.out) hb); have n2_ := Zs0.mk (blT (by repeat (first | (with_reducible first | exact HB.out | apply blA | apply pbN | apply bl1) | exact HB.out)) hb); clear HO_4; clear HO_6; clear HB; have HO_4 := n0_; have HO_6 := n1_; have HB := n2_; clear n0_ n1_ n2_; (try clear hb); (try clear hb2); (try clear hk); (try clear hi)) | (go_at_call 39; (with_reducible refine (impl_IsWord.calls k1 t112 true _ A63.out).mono ?_); rintro e w79 ⟨rfl, hb⟩; have n0_ := Zs0.mk (Kd.R_below (by (with_reducible repeat (first | apply Kd.R_alloc | apply Kd.R_drewN | apply Kd.R_drew)); exact HO_4.out) hb); have n1_ := Zs0.mk (Kd.R_below (by (with_reducible repeat (first | apply Kd.R_alloc | apply Kd.R_drewN | apply Kd.R_drew)); exact HO_6.out) hb); have n2_ := Zs0.mk (blT (by repeat (first | (with_reducible first | exact HB.out | apply blA | apply pbN | apply bl1) | exact HB.out)) hb); clear HO_4; clear HO_6; clear HB; have HO_4 := n0_; have HO_6 := n1_; have HB := n2_; clear n0_ n1_ n2_; (try clear hb); (try clear hb2); (try clear hk); (try clear hi)) | (go_at_call 41; (with_reducible refine (impl_NameOk.calls k1 t112 false _ A65.out).mono ?_); rintro e w80 ⟨rfl, hb⟩; have n0_ := Zs0.mk (Kd.R_below (by (with_reducible repeat (first | apply Kd.R_alloc | apply Kd.R_drewN | apply Kd.R_drew)); exact HO_4.out) hb); have n1_ := Zs0.mk (Kd.R_below (by (with_reducible repeat (first | apply Kd.R_alloc | apply Kd.R_drewN | apply Kd.R_drew)); exact HO_6.out) hb); have n2_ := Zs0.mk (blT (by repeat (first | (with_reducible first | exact HB.out | apply blA | apply pbN | apply bl1) | exact HB.out)) hb); clear HO_4; clear HO_6; clear HB; have HO_4 := n0_; have HO_6 := n1_; have HB := n2_; clear n0_ n1_ n2_; (try clear hb); (try clear hb2); (try clear hk); (try clear hi)) | (go_at_call 28; (with_reducible refine (impl_Lex.calls k1 (t102 ++ (⟨#[32, 10, 32]⟩ : ByteArray)) t140 t141 _ A76.out (tabEB (tabAE HT.out) (by repeat (first | (with_reducible first | exact HB.out | apply blA | apply pbN | apply bl1) | exact HB.out)))).mono ?_); rintro e w81 ⟨v142, rfl, ho0, hb⟩; have n0_ := Zs0.mk (Kd.R_elder' (by (with_reducible repeat (first | apply Kd.R_alloc | apply Kd.R_drewN | apply Kd.R_drew)); exact HO_4.out) (Kd.R_base ho0) hb); have n1_ := Zs0.mk (Kd.R_elder' (by (with_reducible repeat (first | apply Kd.R_alloc | apply Kd.R_drewN | apply Kd.R_drew)); exact HO_6.out) (Kd.R_base ho0) hb); have n2_ := Zs0.mk (Kd.R_lower (Kd.R_new' (Kd.R_new' ho0 (Kd.R_lt (by (with_reducible repeat (first | apply Kd.R_alloc | apply Kd.R_drewN | apply Kd.R_drew)); exact HO_4.out))) (Kd.R_lt (by (with_reducible repeat (first | apply Kd.R_alloc | apply Kd.R_drewN | apply Kd.R_drew)); exact HO_6.out))) (blZ (by repeat (first | (with_reducible first | exact HB.out | apply blA | apply pbN | apply bl1) | exact HB.out)))); have n3_ := Zs0.mk (blT (by repeat (first | (with_reducible first | exact HB.out | apply blA | apply pbN | apply bl1) | exact HB.out)) hb); clear HO_4; clear HO_6; clear HB; have HO_4 := n0_; have HO_6 := n1_; have HO143 := n2_; have HB := n3_; clear n0_ n1_ n2_ n3_; (try clear hb); (try clear hb2); (try clear hk); (try clear hi); (try clear ho0); obtain ⟨Ao82, co82, eo82⟩ := Kd.R_slice HO143.out; subst eo82))
                                go_ret
                                exact ⟨by first | rfl | (simp [eWn, eWs] <;> rfl) | (simp [*, eWn, eWs] <;> rfl), by repeat (first | (with_reducible first | exact HB.out | apply blA | apply pbN | apply bl1) | exact HB.out)⟩
                              · rw [if_neg c77] at H
                                have c77b0 : (t141 == 0) = false := beq_eq_false_iff_ne.mpr c77
                                have c77b1 : (t141 != 0) = true := bne_iff_ne.mpr c77
                                obtain rfl := Option.some.inj H
                                go_wp2_with (first | (go_at_call 11; (with_reducible refine (impl_DecText.calls t116 t137 _ A61.out (tabB (tabAT HT.out) (by repeat (first | (with_reducible first | exact HB.out | apply blA | apply pbN | apply bl1) | exact HB.out)))).mono ?_); rintro e w83 ⟨rfl, hb⟩; have n0_ := Zs0.mk (Kd.R_below (by (with_reducible repeat (first | apply Kd.R_alloc | apply Kd.R_drewN | apply Kd.R_drew)); exact HO_4.out) hb); have n1_ := Zs0.mk (Kd.R_below (by (with_reducible repeat (first | apply Kd.R_alloc | apply Kd.R_drewN | apply Kd.R_drew)); exact HO_6.out) hb); have n2_ := Zs0.mk (blT (by repeat (first | (with_reducible first | exact HB.out | apply blA | apply pbN | apply bl1) | exact HB.out)) hb); clear HO_4; clear HO_6; clear HB; have HO_4 := n0_; have HO_6 := n1_; have HB := n2_; clear n0_ n1_ n2_; (try clear hb); (try clear hb2); (try clear hk); (try clear hi)) | (go_at_call 39; (with_reducible refine (impl_IsWord.calls k1 t112 true _ A63.out).mono ?_); rintro e w84 ⟨rfl, hb⟩; have n0_ := Zs0.mk (Kd.R_below (by (with_reducible repeat (first | apply Kd.R_alloc | apply Kd.R_drewN | apply Kd.R_drew)); exact HO_4.out) hb); have n1_ := Zs0.mk (Kd.R_below (by (with_reducible repeat (first | apply Kd.R_alloc | apply Kd.R_drewN | apply Kd.R_drew)); exact HO_6.out) hb); have n2_ := Zs0.mk (blT (by repeat (first | (with_reducible first | exact HB.out | apply blA | apply pbN | apply bl1) | exact HB.out)) hb); clear HO_4; clear HO_6; clear HB; have HO_4 := n0_; have HO_6 := n1_; have HB := n2_; clear n0_ n1_ n2_; (try clear hb); (try clear hb2); (try clear hk); (try clear hi)) | (go_at_call 41; (with_reducible refine (impl_NameOk.calls k1 t112 false _ A65.out).mono ?_); rintro e w85 ⟨rfl, hb⟩; have n0_ := Zs0.mk (Kd.R_below (by (with_reducible repeat (first | apply Kd.R_alloc | apply Kd.R_drewN | apply Kd.R_drew)); exact HO_4.out) hb); have n1_ := Zs0.mk (Kd.R_below (by (with_reducible repeat (first | apply Kd.R_alloc | apply Kd.R_drewN | apply Kd.R_drew)); exact HO_6.out) hb); have n2_ := Zs0.mk (blT (by repeat (first | (with_reducible first | exact HB.out | apply blA | apply pbN | apply bl1) | exact HB.out)) hb); clear HO_4; clear HO_6; clear HB; have HO_4 := n0_; have HO_6 := n1_; have HB := n2_; clear n0_ n1_ n2_; (try clear hb); (try clear hb2); (try clear hk); (try clear hi)) | (go_at_call 28; (with_reducible refine (impl_Lex.calls k1 (t102 ++ (⟨#[32, 10, 32]⟩ : ByteArray)) t140 t141 _ A76.out (tabEB (tabAE HT.out) (by repeat (first | (with_reducible first | exact HB.out | apply blA | apply pbN | apply bl1) | exact HB.out)))).mono ?_); rintro e w86 ⟨v142, rfl, ho0, hb⟩; have n0_ := Zs0.mk (Kd.R_elder' (by (with_reducible repeat (first | apply Kd.R_alloc | apply Kd.R_drewN | apply Kd.R_drew)); exact HO_4.out) (Kd.R_base ho0) hb); have n1_ := Zs0.mk (Kd.R_elder' (by (with_reducible repeat (first | apply Kd.R_alloc | apply Kd.R_drewN | apply Kd.R_drew)); exact HO_6.out) (Kd.R_base ho0) hb); have n2_ := Zs0.mk (Kd.R_lower (Kd.R_new' (Kd.R_new' ho0 (Kd.R_lt (by (with_reducible repeat (first | apply Kd.R_alloc | apply Kd.R_drewN | apply Kd.R_drew)); exact HO_4.out))) (Kd.R_lt (by (with_reducible repeat (first | apply Kd.R_alloc | apply Kd.R_drewN | apply Kd.R_drew)); exact HO_6.out))) (blZ (by repeat (first | (with_reducible first | exact HB.out | apply blA | apply pbN | apply bl1) | exact HB.out)))); have n3_ := Zs0.mk (blT (by repeat (first | (with_reducible first | exact HB.out | apply blA | apply pbN | apply bl1) | exact HB.out)) hb); clear HO_4; clear HO_6; clear HB; have HO_4 := n0_; have HO_6 := n1_; have HO143 := n2_; have HB := n3_; clear n0_ n1_ n2_ n3_; (try clear hb); (try clear hb2); (try clear hk); (try clear hi); (try clear ho0)))
                                go_ret
                                exact ⟨by first | rfl | (simp [eWn, eWs] <;> rfl) | (simp [*, eWn, eWs] <;> rfl), by repeat (first | (with_reducible first | exact HB.out | apply blA | apply pbN | apply bl1) | exact HB.out)⟩
                          · rw [if_neg c70] at H
                            have c70b0 : (t104 == 0) = false := beq_eq_false_iff_ne.mpr c70
                            have c70b1 : (t104 != 0) = true := bne_iff_ne.mpr c70
                            obtain rfl := Option.some.inj H
                            go_wp2_with (first | (go_at_call 11; (with_reducible refine (impl_DecText.calls t116 t137 _ A61.out (tabB (tabAT HT.out) (by repeat (first | (with_reducible first | exact HB.out | apply blA | apply pbN | apply bl1) | exact HB.out)))).mono ?_); rintro e w87 ⟨rfl, hb⟩; have n0_ := Zs0.mk (Kd.R_below (by (with_reducible repeat (first | apply Kd.R_alloc | apply Kd.R_drewN | apply Kd.R_drew)); exact HO_4.out) hb); have n1_ := Zs0.mk (Kd.R_below (by (with_reducible repeat (first | apply Kd.R_alloc | apply Kd.R_drewN | apply Kd.R_drew)); exact HO_6.out) hb); have n2_ := Zs0.mk (blT (by repeat (first | (with_reducible first | exact HB.out | apply blA | apply pbN | apply bl1) | exact HB.out)) hb); clear HO_4; clear HO_6; clear HB; have HO_4 := n0_; have HO_6 := n1_; have HB := n2_; clear n0_ n1_ n2_; (try clear hb); (try clear hb2); (try clear hk); (try clear hi)) | (go_at_call 39; (with_reducible refine (impl_IsWord.calls k1 t112 true _ A63.out).mono ?_); rintro e w88 ⟨rfl, hb⟩; have n0_ := Zs0.mk (Kd.R_below (by (with_reducible repeat (first | apply Kd.R_alloc | apply Kd.R_drewN | apply Kd.R_drew)); exact HO_4.out) hb); have n1_ := Zs0.mk (Kd.R_below (by (with_reducible repeat (first | apply Kd.R_alloc | apply Kd.R_drewN | apply Kd.R_drew)); exact HO_6.out) hb); have n2_ := Zs0.mk (blT (by repeat (first | (with_reducible first | exact HB.out | apply blA | apply pbN | apply bl1) | exact HB.out)) hb); clear HO_4; clear HO_6; clear HB; have HO_4 := n0_; have HO_6 := n1_; have HB := n2_; clear n0_ n1_ n2_; (try clear hb); (try clear hb2); (try clear hk); (try clear hi)) | (go_at_call 41; (with_reducible refine (impl_NameOk.calls k1 t112 false _ A65.out).mono ?_); rintro e w89 ⟨rfl, hb⟩; have n0_ := Zs0.mk (Kd.R_below (by (with_reducible repeat (first | apply Kd.R_alloc | apply Kd.R_drewN | apply Kd.R_drew)); exact HO_4.out) hb); have n1_ := Zs0.mk (Kd.R_below (by (with_reducible repeat (first | apply Kd.R_alloc | apply Kd.R_drewN | apply Kd.R_drew)); exact HO_6.out) hb); have n2_ := Zs0.mk (blT (by repeat (first | (with_reducible first | exact HB.out | apply blA | apply pbN | apply bl1) | exact HB.out)) hb); clear HO_4; clear HO_6; clear HB; have HO_4 := n0_; have HO_6 := n1_; have HB := n2_; clear n0_ n1_ n2_; (try clear hb); (try clear hb2); (try clear hk); (try clear hi)))
                            go_ret
                            exact ⟨by first | rfl | (simp [eWn, eWs] <;> rfl) | (simp [*, eWn, eWs] <;> rfl), by repeat (first | (with_reducible first | exact HB.out | apply blA | apply pbN | apply bl1) | exact HB.out)⟩
                      · replace c64 := Bool.eq_false_iff.mpr c64
                        subst c64
                        have H1 : (if t104 = 0 then (if (t102.size : Int) > 2997 then (some true) else (if t102.size + 3 ≤ 9223372036854775807 then ((impl_Lex.f k1 (t102 ++ (⟨#[32, 10, 32]⟩ : ByteArray))).bind fun bt144 => (if bt144.2 = 0 then (some ((bt144.1.length : Int) == (t103.length : Int))) else (some false))) else (none))) else (some ((t103.length : Int) == 0))) = some r := by rw [if_neg (show ¬ (false = true) by decide)] at H; exact H
                        clear H
                        have H := H1
                        clear H1
                        by_cases c90 : t104 = 0
                        · rw [if_pos c90] at H
                          have c90b0 : (t104 == 0) = true := beq_iff_eq.mpr c90
                          have c90b1 : (t104 != 0) = false := bne_eq_false_iff_eq.mpr c90
                          clear c90
                          by_cases c91 : (t102.size : Int) > 2997
                          · rw [if_pos c91] at H
                            have c91b0 : decide (2997 < (t102.size : Int)) = true := decide_eq_true c91
                            have c91b1 : decide (2997 < t102.size) = true := decide_eq_true (by omega)
                            clear c91
                            obtain rfl := Option.some.inj H
                            go_wp2_with (first | (go_at_call 11; (with_reducible refine (impl_DecText.calls t116 t137 _ A61.out (tabB (tabAT HT.out) (by repeat (first | (with_reducible first | exact HB.out | apply blA | apply pbN | apply bl1) | exact HB.out)))).mono ?_); rintro e w92 ⟨rfl, hb⟩; have n0_ := Zs0.mk (Kd.R_below (by (with_reducible repeat (first | apply Kd.R_alloc | apply Kd.R_drewN | apply Kd.R_drew)); exact HO_4.out) hb); have n1_ := Zs0.mk (Kd.R_below (by (with_reducible repeat (first | apply Kd.R_alloc | apply Kd.R_drewN | apply Kd.R_drew)); exact HO_6.out) hb); have n2_ := Zs0.mk (blT (by repeat (first | (with_reducible first | exact HB.out | apply blA | apply pbN | apply bl1) | exact HB.out)) hb); clear HO_4; clear HO_6; clear HB; have HO_4 := n0_; have HO_6 := n1_; have HB := n2_; clear n0_ n1_ n2_; (try clear hb); (try clear hb2); (try clear hk); (try clear hi)) | (go_at_call 39; (with_reducible refine (impl_IsWord.calls k1 t112 false _ A63.out).mono ?_); rintro e w93 ⟨rfl, hb⟩; have n0_ := Zs0.mk (Kd.R_below (by (with_reducible repeat (first | apply Kd.R_alloc | apply Kd.R_drewN | apply Kd.R_drew)); exact HO_4.out) hb); have n1_ := Zs0.mk (Kd.R_below (by (with_reducible repeat (first | apply Kd.R_alloc | apply Kd.R_drewN | apply Kd.R_drew)); exact HO_6.out) hb); have n2_ := Zs0.mk (blT (by repeat (first | (with_reducible first | exact HB.out | apply blA | apply pbN | apply bl1) | exact HB.out)) hb); clear HO_4; clear HO_6; clear HB; have HO_4 := n0_; have HO_6 := n1_; have HB := n2_; clear n0_ n1_ n2_; (try clear hb); (try clear hb2); (try clear hk); (try clear hi)))
                            go_ret
                            exact ⟨by first | rfl | (simp [eWn, eWs] <;> rfl) | (simp [*, eWn, eWs] <;> rfl), by repeat (first | (with_reducible first | exact HB.out | apply blA | apply pbN | apply bl1) | exact HB.out)⟩
                          · rw [if_neg c91] at H
                            have c91b0 : decide (2997 < (t102.size : Int)) = false := decide_eq_false c91
                            have c91b1 : decide (2997 < t102.size) = false := decide_eq_false (by omega)
                            clear c91
                            have c94 := ipos H
                            rw [if_pos c94] at H
                            have c94b0 := eq_true c94
                            have c94b1 := decide_eq_true c94
                            try have c94b2 := eq_false (Nat.not_lt.2 c94)
                            replace H := Option.bind_eq_some_iff.mp H
                            obtain ⟨⟨t144, t145⟩, A950, H⟩ := H
                            try dsimp only at H
                            have A95 := Zs0.mk A950
                            clear A950
                            by_cases c96 : t145 = 0
                            · rw [if_pos c96] at H
                              have c96b0 : (t145 == 0) = true := beq_iff_eq.mpr c96
                              have c96b1 : (t145 != 0) = false := bne_eq_false_iff_eq.mpr c96
                              clear c96
                              obtain rfl := Option.some.inj H
                              go_wp2_with (first | (go_at_call 11; (with_reducible refine (impl_DecText.calls t116 t137 _ A61.out (tabB (tabAT HT.out) (by repeat (first | (with_reducible first | exact HB.out | apply blA | apply pbN | apply bl1) | exact HB.out)))).mono ?_); rintro e w97 ⟨rfl, hb⟩; have n0_ := Zs0.mk (Kd.R_below (by (with_reducible repeat (first | apply Kd.R_alloc | apply Kd.R_drewN | apply Kd.R_drew)); exact HO_4.out) hb); have n1_ := Zs0.mk (Kd.R_below (by (with_reducible repeat (first | apply Kd.R_alloc | apply Kd.R_drewN | apply Kd.R_drew)); exact HO_6.out) hb); have n2_ := Zs0.mk (blT (by repeat (first | (with_reducible first | exact HB.out | apply blA | apply pbN | apply bl1) | exact HB.out)) hb); clear HO_4; clear HO_6; clear HB; have HO_4 := n0_; have HO_6 := n1_; have HB := n2_; clear n0_ n1_ n2_; (try clear hb); (try clear hb2); (try clear hk); (try clear hi)) | (go_at_call 39; (with_reducible refine (impl_IsWord.calls k1 t112 false _ A63.out).mono ?_); rintro e w98 ⟨rfl, hb⟩; have n0_ := Zs0.mk (Kd.R_below (by (with_reducible repeat (first | apply Kd.R_alloc | apply Kd.R_drewN | apply Kd.R_drew)); exact HO_4.out) hb); have n1_ := Zs0.mk (Kd.R_below (by (with_reducible repeat (first | apply Kd.R_alloc | apply Kd.R_drewN | apply Kd.R_drew)); exact HO_6.out) hb); have n2_ := Zs0.mk (blT (by repeat (first | (with_reducible first | exact HB.out | apply blA | apply pbN | apply bl1) | exact HB.out)) hb); clear HO_4; clear HO_6; clear HB; have HO_4 := n0_; have HO_6 := n1_; have HB := n2_; clear n0_ n1_ n2_; (try clear hb); (try clear hb2); (try clear hk); (try clear hi)) | (go_at_call 28; (with_reducible refine (impl_Lex.calls k1 (t102 ++ (⟨#[32, 10, 32]⟩ : ByteArray)) t144 t145 _ A95.out (tabEB (tabAE HT.out) (by repeat (first | (with_reducible first | exact HB.out | apply blA | apply pbN | apply bl1) | exact HB.out)))).mono ?_); rintro e w99 ⟨v146, rfl, ho0, hb⟩; have n0_ := Zs0.mk (Kd.R_elder' (by (with_reducible repeat (first | apply Kd.R_alloc | apply Kd.R_drewN | apply Kd.R_drew)); exact HO_4.out) (Kd.R_base ho0) hb); have n1_ := Zs0.mk (Kd.R_elder' (by (with_reducible repeat (first | apply Kd.R_alloc | apply Kd.R_drewN | apply Kd.R_drew)); exact HO_6.out) (Kd.R_base ho0) hb); have n2_ := Zs0.mk (Kd.R_lower (Kd.R_new' (Kd.R_new' ho0 (Kd.R_lt (by (with_reducible repeat (first | apply Kd.R_alloc | apply Kd.R_drewN | apply Kd.R_drew)); exact HO_4.out))) (Kd.R_lt (by (with_reducible repeat (first | apply Kd.R_alloc | apply Kd.R_drewN | apply Kd.R_drew)); exact HO_6.out))) (blZ (by repeat (first | (with_reducible first | exact HB.out | apply blA | apply pbN | apply bl1) | exact HB.out)))); have n3_ := Zs0.mk (blT (by repeat (first | (with_reducible first | exact HB.out | apply blA | apply pbN | apply bl1) | exact HB.out)) hb); clear HO_4; clear HO_6; clear HB; have HO_4 := n0_; have HO_6 := n1_; have HO147 := n2_; have HB := n3_; clear n0_ n1_ n2_ n3_; (try clear hb); (try clear hb2); (try clear hk); (try clear hi); (try clear ho0); obtain ⟨Ao100, co100, eo100⟩ := Kd.R_slice HO147.out; subst eo100))
                              go_ret
                              exact ⟨by first | rfl | (simp [eWn, eWs] <;> rfl) | (simp [*, eWn, eWs] <;> rfl), by repeat (first | (with_reducible first | exact HB.out | apply blA | apply pbN | apply bl1) | exact HB.out)⟩
                            · rw [if_neg c96] at H
                              have c96b0 : (t145 == 0) = false := beq_eq_false_iff_ne.mpr c96
                              have c96b1 : (t145 != 0) = true := bne_iff_ne.mpr c96
                              obtain rfl := Option.some.inj H
                              go_wp2_with (first | (go_at_call 11; (with_reducible refine (impl_DecText.calls t116 t137 _ A61.out (tabB (tabAT HT.out) (by repeat (first | (with_reducible first | exact HB.out | apply blA | apply pbN | apply bl1) | exact HB.out)))).mono ?_); rintro e w101 ⟨rfl, hb⟩; have n0_ := Zs0.mk (Kd.R_below (by (with_reducible repeat (first | apply Kd.R_alloc | apply Kd.R_drewN | apply Kd.R_drew)); exact HO_4.out) hb); have n1_ := Zs0.mk (Kd.R_below (by (with_reducible repeat (first | apply Kd.R_alloc | apply Kd.R_drewN | apply Kd.R_drew)); exact HO_6.out) hb); have n2_ := Zs0.mk (blT (by repeat (first | (with_reducible first | exact HB.out | apply blA | apply pbN | apply bl1) | exact HB.out)) hb); clear HO_4; clear HO_6; clear HB; have HO_4 := n0_; have HO_6 := n1_; have HB := n2_; clear n0_ n1_ n2_; (try clear hb); (try clear hb2); (try clear hk); (try clear hi)) | (go_at_call 39; (with_reducible refine (impl_IsWord.calls k1 t112 false _ A63.out).mono ?_); rintro e w102 ⟨rfl, hb⟩; have n0_ := Zs0.mk (Kd.R_below (by (with_reducible repeat (first | apply Kd.R_alloc | apply Kd.R_drewN | apply Kd.R_drew)); exact HO_4.out) hb); have n1_ := Zs0.mk (Kd.R_below (by (with_reducible repeat (first | apply Kd.R_alloc | apply Kd.R_drewN | apply Kd.R_drew)); exact HO_6.out) hb); have n2_ := Zs0.mk (blT (by repeat (first | (with_reducible first | exact HB.out | apply blA | apply pbN | apply bl1) | exact HB.out)) hb); clear HO_4; clear HO_6; clear HB; have HO_4 := n0_; have HO_6 := n1_; have HB := n2_; clear n0_ n1_ n2_; (try clear hb); (try clear hb2); (try clear hk); (try clear hi)) | (go_at_call 28; (with_reducible refine (impl_Lex.calls k1 (t102 ++ (⟨#[32, 10, 32]⟩ : ByteArray)) t144 t145 _ A95.out (tabEB (tabAE HT.out) (by repeat (first | (with_reducible first | exact HB.out | apply blA | apply pbN | apply bl1) | exact HB.out)))).mono ?_); rintro e w103 ⟨v146, rfl, ho0, hb⟩; have n0_ := Zs0.mk (Kd.R_elder' (by (with_reducible repeat (first | apply Kd.R_alloc | apply Kd.R_drewN | apply Kd.R_drew)); exact HO_4.out) (Kd.R_base ho0) hb); have n1_ := Zs0.mk (Kd.R_elder' (by (with_reducible repeat (first | apply Kd.R_alloc | apply Kd.R_drewN | apply Kd.R_drew)); exact HO_6.out) (Kd.R_base ho0) hb); have n2_ := Zs0.mk (Kd.R_lower (Kd.R_new' (Kd.R_new' ho0 (Kd.R_lt (by (with_reducible repeat (first | apply Kd.R_alloc | apply Kd.R_drewN | apply Kd.R_drew)); exact HO_4.out))) (Kd.R_lt (by (with_reducible repeat (first | apply Kd.R_alloc | apply Kd.R_drewN | apply Kd.R_drew)); exact HO_6.out))) (blZ (by repeat (first | (with_reducible first | exact HB.out | apply blA | apply pbN | apply bl1) | exact HB.out)))); have n3_ := Zs0.mk (blT (by repeat (first | (with_reducible first | exact HB.out | apply blA | apply pbN | apply bl1) | exact HB.out)) hb); clear HO_4; clear HO_6; clear HB; have HO_4 := n0_; have HO_6 := n1_; have HO147 := n2_; have HB := n3_; clear n0_ n1_ n2_ n3_; (try clear hb); (try clear hb2); (try clear hk); (try clear hi); (try clear ho0)))
                              go_ret
                              exact ⟨by first | rfl | (simp [eWn, eWs] <;> rfl) | (simp [*, eWn, eWs] <;> rfl), by repeat (first | (with_reducible first | exact HB.out | apply blA | apply pbN | apply bl1) | exact HB.out)⟩
                        · rw [if_neg c90] at H
                          have c90b0 : (t104 == 0) = false := beq_eq_false_iff_ne.mpr c90
                          have c90b1 : (t104 != 0) = true := bne_iff_ne.mpr c90
                          obtain rfl := Option.some.inj H
                          go_wp2_with (first | (go_at_call 11; (with_reducible refine (impl_DecText.calls t116 t137 _ A61.out (tabB (tabAT HT.out) (by repeat (first | (with_reducible first | exact HB.out | apply blA | apply pbN | apply bl1) | exact HB.out)))).mono ?_); rintro e w104 ⟨rfl, hb⟩; have n0_ := Zs0.mk (Kd.R_below (by (with_reducible repeat (first | apply Kd.R_alloc | apply Kd.R_drewN | apply Kd.R_drew)); exact HO_4.out) hb); have n1_ := Zs0.mk (Kd.R_below (by (with_reducible repeat (first | apply Kd.R_alloc | apply Kd.R_drewN | apply Kd.R_drew)); exact HO_6.out) hb); have n2_ := Zs0.mk (blT (by repeat (first | (with_reducible first | exact HB.out | apply blA | apply pbN | apply bl1) | exact HB.out)) hb); clear HO_4; clear HO_6; clear HB; have HO_4 := n0_; have HO_6 := n1_; have HB := n2_; clear n0_ n1_ n2_; (try clear hb); (try clear hb2); (try clear hk); (try clear hi)) | (go_at_call 39; (with_reducible refine (impl_IsWord.calls k1 t112 false _ A63.out).mono ?_); rintro e w105 ⟨rfl, hb⟩; have n0_ := Zs0.mk (Kd.R_below (by (with_reducible repeat (first | apply Kd.R_alloc | apply Kd.R_drewN | apply Kd.R_drew)); exact HO_4.out) hb); have n1_ := Zs0.mk (Kd.R_below (by (with_reducible repeat (first | apply Kd.R_alloc | apply Kd.R_drewN | apply Kd.R_drew)); exact HO_6.out) hb); have n2_ := Zs0.mk (blT (by repeat (first | (with_reducible first | exact HB.out | apply blA | apply pbN | apply bl1) | exact HB.out)) hb); clear HO_4; clear HO_6; clear HB; have HO_4 := n0_; have HO_6 := n1_; have HB := n2_; clear n0_ n1_ n2_; (try clear hb); (try clear hb2); (try clear hk); (try clear hi)))
                          go_ret
                          exact ⟨by first | rfl | (simp [eWn, eWs] <;> rfl) | (simp [*, eWn, eWs] <;> rfl), by repeat (first | (with_reducible first | exact HB.out | apply blA | apply pbN | apply bl1) | exact HB.out)⟩
                    · rw [if_neg c62] at H
                      have c62b0 : (t137.toList == t114.toList) = false := beq_eq_false_iff_ne.mpr c62
                      have c62b1 : (t137.toList != t114.toList) = true := bne_iff_ne.mpr c62
                      obtain rfl := Option.some.inj H
                      go_wp2_with (first | (go_at_call 11; (with_reducible refine (impl_DecText.calls t116 t137 _ A61.out (tabB (tabAT HT.out) (by repeat (first | (with_reducible first | exact HB.out | apply blA | apply pbN | apply bl1) | exact HB.out)))).mono ?_); rintro e w106 ⟨rfl, hb⟩; have n0_ := Zs0.mk (Kd.R_below (by (with_reducible repeat (first | apply Kd.R_alloc | apply Kd.R_drewN | apply Kd.R_drew)); exact HO_4.out) hb); have n1_ := Zs0.mk (Kd.R_below (by (with_reducible repeat (first | apply Kd.R_alloc | apply Kd.R_drewN | apply Kd.R_drew)); exact HO_6.out) hb); have n2_ := Zs0.mk (blT (by repeat (first | (with_reducible first | exact HB.out | apply blA | apply pbN | apply bl1) | exact HB.out)) hb); clear HO_4; clear HO_6; clear HB; have HO_4 := n0_; have HO_6 := n1_; have HB := n2_; clear n0_ n1_ n2_; (try clear hb); (try clear hb2); (try clear hk); (try clear hi)))
                      go_ret
                      exact ⟨by first | rfl | (simp [eWn, eWs] <;> rfl) | (simp [*, eWn, eWs] <;> rfl), by repeat (first | (with_reducible first | exact HB.out | apply blA | apply pbN | apply bl1) | exact HB.out)⟩
                  · replace c60 := Bool.eq_false_iff.mpr c60
                    subst c60
                    have H1 : ((impl_IsWord.f k1 t112).bind fun t148 => (if t148 = true then ((impl_NameOk.f k1 t112).bind fun t149 => (if t149 = true then (some false) else (if t104 = 0 then (if (t102.size : Int) > 2997 then (some true) else (if t102.size + 3 ≤ 9223372036854775807 then ((impl_Lex.f k1 (t102 ++ (⟨#[32, 10, 32]⟩ : ByteArray))).bind fun bt150 => (if bt150.2 = 0 then (some ((bt150.1.length : Int) == (t103.length : Int))) else (some false))) else (none))) else (some ((t103.length : Int) == 0))))) else (if t104 = 0 then (if (t102.size : Int) > 2997 then (some true) else (if t102.size + 3 ≤ 9223372036854775807 then ((impl_Lex.f k1 (t102 ++ (⟨#[32, 10, 32]⟩ : ByteArray))).bind fun bt154 => (if bt154.2 = 0 then (some ((bt154.1.length : Int) == (t103.length : Int))) else (some false))) else (none))) else (some ((t103.length : Int) == 0))))) = some r := by rw [if_neg (show ¬ (false = true) by decide)] at H; exact H
                    clear H
                    have H := H1
                    clear H1
                    replace H := Option.bind_eq_some_iff.mp H
                    obtain ⟨t148, A1070, H⟩ := H
                    try dsimp only at H
                    have A107 := Zs0.mk A1070
                    clear A1070
                    by_cases c108 : t148 = true
                    · subst c108
                      have H1 : ((impl_NameOk.f k1 t112).bind fun t149 => (if t149 = true then (some false) else (if t104 = 0 then (if (t102.size : Int) > 2997 then (some true) else (if t102.size + 3 ≤ 9223372036854775807 then ((impl_Lex.f k1 (t102 ++ (⟨#[32, 10, 32]⟩ : ByteArray))).bind fun bt150 => (if bt150.2 = 0 then (some ((bt150.1.length : Int) == (t103.length : Int))) else (some false))) else (none))) else (some ((t103.length : Int) == 0))))) = some r := by rw [if_pos rfl] at H; exact H
                      clear H
                      have H := H1
                      clear H1
                      replace H := Option.bind_eq_some_iff.mp H
                      obtain ⟨t149, A1090, H⟩ := H
                      try dsimp only at H
                      have A109 := Zs0.mk A1090
                      clear A1090
                      by_cases c110 : t149 = true
                      · subst c110
                        have H1 : (some false) = some r := by rw [if_pos rfl] at H; exact H
                        clear H
                        have H := H1
                        clear H1
                        obtain rfl := Option.some.inj H
                        go_wp2_with (first | (go_at_call 39; (with_reducible refine (impl_IsWord.calls k1 t112 true _ A107.out).mono ?_); rintro e w111 ⟨rfl, hb⟩; have n0_ := Zs0.mk (Kd.R_below (by (with_reducible repeat (first | apply Kd.R_alloc | apply Kd.R_drewN | apply Kd.R_drew)); exact HO_4.out) hb); have n1_ := Zs0.mk (Kd.R_below (by (with_reducible repeat (first | apply Kd.R_alloc | apply Kd.R_drewN | apply Kd.R_drew)); exact HO_6.out) hb); have n2_ := Zs0.mk (blT (by repeat (first | (with_reducible first | exact HB.out | apply blA | apply pbN | apply bl1) | exact HB.out)) hb); clear HO_4; clear HO_6; clear HB; have HO_4 := n0_; have HO_6 := n1_; have HB := n2_; clear n0_ n1_ n2_; (try clear hb); (try clear hb2); (try clear hk); (try clear hi)) | (go_at_call 41; (with_reducible refine (impl_NameOk.calls k1 t112 true _ A109.out).mono ?_); rintro e w112 ⟨rfl, hb⟩; have n0_ := Zs0.mk (Kd.R_below (by (with_reducible repeat (first | apply Kd.R_alloc | apply Kd.R_drewN | apply Kd.R_drew)); exact HO_4.out) hb); have n1_ := Zs0.mk (Kd.R_below (by (with_reducible repeat (first | apply Kd.R_alloc | apply Kd.R_drewN | apply Kd.R_drew)); exact HO_6.out) hb); have n2_ := Zs0.mk (blT (by repeat (first | (with_reducible first | exact HB.out | apply blA | apply pbN | apply bl1) | exact HB.out)) hb); clear HO_4; clear HO_6; clear HB; have HO_4 := n0_; have HO_6 := n1_; have HB := n2_; clear n0_ n1_ n2_; (try clear hb); (try clear hb2); (try clear hk); (try clear hi)))
                        go_ret
                        exact ⟨by first | rfl | (simp [eWn, eWs] <;> rfl) | (simp [*, eWn, eWs] <;> rfl), by repeat (first | (with_reducible first | exact HB.out | apply blA | apply pbN | apply bl1) | exact HB.out)⟩
                      · replace c110 := Bool.eq_false_iff.mpr c110
                        subst c110
                        have H1 : (if t104 = 0 then (if (t102.size : Int) > 2997 then (some true) else (if t102.size + 3 ≤ 9223372036854775807 then ((impl_Lex.f k1 (t102 ++ (⟨#[32, 10, 32]⟩ : ByteArray))).bind fun bt150 => (if bt150.2 = 0 then (some ((bt150.1.length : Int) == (t103.length : Int))) else (some false))) else (none))) else (some ((t103.length : Int) == 0))) = some r := by rw [if_neg (show ¬ (false = true) by decide)] at H; exact H
                        clear H
                        have H := H1
                        clear H1
                        by_cases c113 : t104 = 0
                        · rw [if_pos c113] at H
                          have c113b0 : (t104 == 0) = true := beq_iff_eq.mpr c113
                          have c113b1 : (t104 != 0) = false := bne_eq_false_iff_eq.mpr c113
                          clear c113
                          by_cases c114 : (t102.size : Int) > 2997
                          · rw [if_pos c114] at H
                            have c114b0 : decide (2997 < (t102.size : Int)) = true := decide_eq_true c114
                            have c114b1 : decide (2997 < t102.size) = true := decide_eq_true (by omega)
                            clear c114
                            obtain rfl := Option.some.inj H
                            go_wp2_with (first | (go_at_call 39; (with_reducible refine (impl_IsWord.calls k1 t112 true _ A107.out).mono ?_); rintro e w115 ⟨rfl, hb⟩; have n0_ := Zs0.mk (Kd.R_below (by (with_reducible repeat (first | apply Kd.R_alloc | apply Kd.R_drewN | apply Kd.R_drew)); exact HO_4.out) hb); have n1_ := Zs0.mk (Kd.R_below (by (with_reducible repeat (first | apply Kd.R_alloc | apply Kd.R_drewN | apply Kd.R_drew)); exact HO_6.out) hb); have n2_ := Zs0.mk (blT (by repeat (first | (with_reducible first | exact HB.out | apply blA | apply pbN | apply bl1) | exact HB.out)) hb); clear HO_4; clear HO_6; clear HB; have HO_4 := n0_; have HO_6 := n1_; have HB := n2_; clear n0_ n1_ n2_; (try clear hb); (try clear hb2); (try clear hk); (try clear hi)) | (go_at_call 41; (with_reducible refine (impl_NameOk.calls k1 t112 false _ A109.out).mono ?_); rintro e w116 ⟨rfl, hb⟩; have n0_ := Zs0.mk (Kd.R_below (by (with_reducible repeat (first | apply Kd.R_alloc | apply Kd.R_drewN | apply Kd.R_drew)); exact HO_4.out) hb); have n1_ := Zs0.mk (Kd.R_below (by (with_reducible repeat (first | apply Kd.R_alloc | apply Kd.R_drewN | apply Kd.R_drew)); exact HO_6.out) hb); have n2_ := Zs0.mk (blT (by repeat (first | (with_reducible first | exact HB.out | apply blA | apply pbN | apply bl1) | exact HB.out)) hb); clear HO_4; clear HO_6; clear HB; have HO_4 := n0_; have HO_6 := n1_; have HB := n2_; clear n0_ n1_ n2_; (try clear hb); (try clear hb2); (try clear hk); (try clear hi)))
                            go_ret
                            exact ⟨by first | rfl | (simp [eWn, eWs] <;> rfl) | (simp [*, eWn, eWs] <;> rfl), by repeat (first | (with_reducible first | exact HB.out | apply blA | apply pbN | apply bl1) | exact HB.out)⟩
                          · rw [if_neg c114] at H
                            have c114b0 : decide (2997 < (t102.size : Int)) = false := decide_eq_false c114
                            have c114b1 : decide (2997 < t102.size) = false := decide_eq_false (by omega)
                            clear c114
                            have c117 := ipos H
                            rw [if_pos c117] at H
                            have c117b0 := eq_true c117
                            have c117b1 := decide_eq_true c117
                            try have c117b2 := eq_false (Nat.not_lt.2 c117)
                            replace H := Option.bind_eq_some_iff.mp H
                            obtain ⟨⟨t150, t151⟩, A1180, H⟩ := H
                            try dsimp only at H
                            have A118 := Zs0.mk A1180
                            clear A1180
                            by_cases c119 : t151 = 0
                            · rw [if_pos c119] at H
                              have c119b0 : (t151 == 0) = true := beq_iff_eq.mpr c119
                              have c119b1 : (t151 != 0) = false := bne_eq_false_iff_eq.mpr c119
                              clear c119
                              obtain rfl := Option.some.inj H
                              go_wp2_with (first | (go_at_call 39; (with_reducible refine (impl_IsWord.calls k1 t112 true _ A107.out).mono ?_); rintro e w120 ⟨rfl, hb⟩; have n0_ := Zs0.mk (Kd.R_below (by (with_reducible repeat (first | apply Kd.R_alloc | apply Kd.R_drewN | apply Kd.R_drew)); exact HO_4.out) hb); have n1_ := Zs0.mk (Kd.R_below (by (with_reducible repeat (first | apply Kd.R_alloc | apply Kd.R_drewN | apply Kd.R_drew)); exact HO_6.out) hb); have n2_ := Zs0.mk (blT (by repeat (first | (with_reducible first | exact HB.out | apply blA | apply pbN | apply bl1) | exact HB.out)) hb); clear HO_4; clear HO_6; clear HB; have HO_4 := n0_; have HO_6 := n1_; have HB := n2_; clear n0_ n1_ n2_; (try clear hb); (try clear hb2); (try clear hk); (try clear hi)) | (go_at_call 41; (with_reducible refine (impl_NameOk.calls k1 t112 false _ A109.out).mono ?_); rintro e w121 ⟨rfl, hb⟩; have n0_ := Zs0.mk (Kd.R_below (by (with_reducible repeat (first | apply Kd.R_alloc | apply Kd.R_drewN | apply Kd.R_drew)); exact HO_4.out) hb); have n1_ := Zs0.mk (Kd.R_below (by (with_reducible repeat (first | apply Kd.R_alloc | apply Kd.R_drewN | apply Kd.R_drew)); exact HO_6.out) hb); have n2_ := Zs0.mk (blT (by repeat (first | (with_reducible first | exact HB.out | apply blA | apply pbN | apply bl1) | exact HB.out)) hb); clear HO_4; clear HO_6; clear HB; have HO_4 := n0_; have HO_6 := n1_; have HB := n2_; clear n0_ n1_ n2_; (try clear hb); (try clear hb2); (try clear hk); (try clear hi)) | (go_at_call 28; (with_reducible refine (impl_Lex.calls k1 (t102 ++ (⟨#[32, 10, 32]⟩ : ByteArray)) t150 t151 _ A118.out (tabEB (tabAE HT.out) (by repeat (first | (with_reducible first | exact HB.out | apply blA | apply pbN | apply bl1) | exact HB.out)))).mono ?_); rintro e w122 ⟨v152, rfl, ho0, hb⟩; have n0_ := Zs0.mk (Kd.R_elder' (by (with_reducible repeat (first | apply Kd.R_alloc | apply Kd.R_drewN | apply Kd.R_drew)); exact HO_4.out) (Kd.R_base ho0) hb); have n1_ := Zs0.mk (Kd.R_elder' (by (with_reducible repeat (first | apply Kd.R_alloc | apply Kd.R_drewN | apply Kd.R_drew)); exact HO_6.out) (Kd.R_base ho0) hb); have n2_ := Zs0.mk (Kd.R_lower (Kd.R_new' (Kd.R_new' ho0 (Kd.R_lt (by (with_reducible repeat (first | apply Kd.R_alloc | apply Kd.R_drewN | apply Kd.R_drew)); exact HO_4.out))) (Kd.R_lt (by (with_reducible repeat (first | apply Kd.R_alloc | apply Kd.R_drewN | apply Kd.R_drew)); exact HO_6.out))) (blZ (by repeat (first | (with_reducible first | exact HB.out | apply blA | apply pbN | apply bl1) | exact HB.out)))); have n3_ := Zs0.mk (blT (by repeat (first | (with_reducible first | exact HB.out | apply blA | apply pbN | apply bl1) | exact HB.out)) hb); clear HO_4; clear HO_6; clear HB; have HO_4 := n0_; have HO_6 := n1_; have HO153 := n2_; have HB := n3_; clear n0_ n1_ n2_ n3_; (try clear hb); (try clear hb2); (try clear hk); (try clear hi); (try clear ho0); obtain ⟨Ao123, co123, eo123⟩ := Kd.R_slice HO153.out; subst eo123))
                              go_ret
                              exact ⟨by first | rfl | (simp [eWn, eWs] <;> rfl) | (simp [*, eWn, eWs] <;> rfl), by repeat (first | (with_reducible first | exact HB.out | apply blA | apply pbN | apply bl1) | exact HB.out)⟩
                            · rw [if_neg c119] at H
                              have c119b0 : (t151 == 0) = false := beq_eq_false_iff_ne.mpr c119
                              have c119b1 : (t151 != 0) = true := bne_iff_ne.mpr c119
                              obtain rfl := Option.some.inj H
                              go_wp2_with (first | (go_at_call 39; (with_reducible refine (impl_IsWord.calls k1 t112 true _ A107.out).mono ?_); rintro e w124 ⟨rfl, hb⟩; have n0_ := Zs0.mk (Kd.R_below (by (with_reducible repeat (first | apply Kd.R_alloc | apply Kd.R_drewN | apply Kd.R_drew)); exact HO_4.out) hb); have n1_ := Zs0.mk (Kd.R_below (by (with_reducible repeat (first | apply Kd.R_alloc | apply Kd.R_drewN | apply Kd.R_drew)); exact HO_6.out) hb); have n2_ := Zs0.mk (blT (by repeat (first | (with_reducible first | exact HB.out | apply blA | apply pbN | apply bl1) | exact HB.out)) hb); clear HO_4; clear HO_6; clear HB; have HO_4 := n0_; have HO_6 := n1_; have HB := n2_; clear n0_ n1_ n2_; (try clear hb); (try clear hb2); (try clear hk); (try clear hi)) | (go_at_call 41; (with_reducible refine (impl_NameOk.calls k1 t112 false _ A109.out).mono ?_); rintro e w125 ⟨rfl, hb⟩; have n0_ := Zs0.mk (Kd.R_below (by (with_reducible repeat (first | apply Kd.R_alloc | apply Kd.R_drewN | apply Kd.R_drew)); exact HO_4.out) hb); have n1_ := Zs0.mk (Kd.R_below (by (with_reducible repeat (first | apply Kd.R_alloc | apply Kd.R_drewN | apply Kd.R_drew)); exact HO_6.out) hb); have n2_ := Zs0.mk (blT (by repeat (first | (with_reducible first | exact HB.out | apply blA | apply pbN | apply bl1) | exact HB.out)) hb); clear HO_4; clear HO_6; clear HB; have HO_4 := n0_; have HO_6 := n1_; have HB := n2_; clear n0_ n1_ n2_; (try clear hb); (try clear hb2); (try clear hk); (try clear hi)) | (go_at_call 28; (with_reducible refine (impl_Lex.calls k1 (t102 ++ (⟨#[32, 10, 32]⟩ : ByteArray)) t150 t151 _ A118.out (tabEB (tabAE HT.out) (by repeat (first | (with_reducible first | exact HB.out | apply blA | apply pbN | apply bl1) | exact HB.out)))).mono ?_); rintro e w126 ⟨v152, rfl, ho0, hb⟩; have n0_ := Zs0.mk (Kd.R_elder' (by (with_reducible repeat (first | apply Kd.R_alloc | apply Kd.R_drewN | apply Kd.R_drew)); exact HO_4.out) (Kd.R_base ho0) hb); have n1_ := Zs0.mk (Kd.R_elder' (by (with_reducible repeat (first | apply Kd.R_alloc | apply Kd.R_drewN | apply Kd.R_drew)); exact HO_6.out) (Kd.R_base ho0) hb); have n2_ := Zs0.mk (Kd.R_lower (Kd.R_new' (Kd.R_new' ho0 (Kd.R_lt (by (with_reducible repeat (first | apply Kd.R_alloc | apply Kd.R_drewN | apply Kd.R_drew)); exact HO_4.out))) (Kd.R_lt (by (with_reducible repeat (first | apply Kd.R_alloc | apply Kd.R_drewN | apply Kd.R_drew)); exact HO_6.out))) (blZ (by repeat (first | (with_reducible first | exact HB.out | apply blA | apply pbN | apply bl1) | exact HB.out)))); have n3_ := Zs0.mk (blT (by repeat (first | (with_reducible first | exact HB.out | apply blA | apply pbN | apply bl1) | exact HB.out)) hb); clear HO_4; clear HO_6; clear HB; have HO_4 := n0_; have HO_6 := n1_; have HO153 := n2_; have HB := n3_; clear n0_ n1_ n2_ n3_; (try clear hb); (try clear hb2); (try clear hk); (try clear hi); (try clear ho0)))
                              go_ret
                              exact ⟨by first | rfl | (simp [eWn, eWs] <;> rfl) | (simp [*, eWn, eWs] <;> rfl), by repeat (first | (with_reducible first | exact HB.out | apply blA | apply pbN | apply bl1) | exact HB.out)⟩
                        · rw [if_neg c113] at H
                          have c113b0 : (t104 == 0) = false := beq_eq_false_iff_ne.mpr c113
                          have c113b1 : (t104 != 0) = true := bne_iff_ne.mpr c113
                          obtain rfl := Option.some.inj H
                          go_wp2_with (first | (go_at_call 39; (with_reducible refine (impl_IsWord.calls k1 t112 true _ A107.out).mono ?_); rintro e w127 ⟨rfl, hb⟩; have n0_ := Zs0.mk (Kd.R_below (by (with_reducible repeat (first | apply Kd.R_alloc | apply Kd.R_drewN | apply Kd.R_drew)); exact HO_4.out) hb); have n1_ := Zs0.mk (Kd.R_below (by (with_reducible repeat (first | apply Kd.R_alloc | apply Kd.R_drewN | apply Kd.R_drew)); exact HO_6.out) hb); have n2_ := Zs0.mk (blT (by repeat (first | (with_reducible first | exact HB.out | apply blA | apply pbN | apply bl1) | exact HB.out)) hb); clear HO_4; clear HO_6; clear HB; have HO_4 := n0_; have HO_6 := n1_; have HB := n2_; clear n0_ n1_ n2_; (try clear hb); (try clear hb2); (try clear hk); (try clear hi)) | (go_at_call 41; (with_reducible refine (impl_NameOk.calls k1 t112 false _ A109.out).mono ?_); rintro e w128 ⟨rfl, hb⟩; have n0_ := Zs0.mk (Kd.R_below (by (with_reducible repeat (first | apply Kd.R_alloc | apply Kd.R_drewN | apply Kd.R_drew)); exact HO_4.out) hb); have n1_ := Zs0.mk (Kd.R_below (by (with_reducible repeat (first | apply Kd.R_alloc | apply Kd.R_drewN | apply Kd.R_drew)); exact HO_6.out) hb); have n2_ := Zs0.mk (blT (by repeat (first | (with_reducible first | exact HB.out | apply blA | apply pbN | apply bl1) | exact HB.out)) hb); clear HO_4; clear HO_6; clear HB; have HO_4 := n0_; have HO_6 := n1_; have HB := n2_; clear n0_ n1_ n2_; (try clear hb); (try clear hb2); (try clear hk); (try clear hi)))
                          go_ret
                          exact ⟨by first | rfl | (simp [eWn, eWs] <;> rfl) | (simp [*, eWn, eWs] <;> rfl), by repeat (first | (with_reducible first | exact HB.out | apply blA | apply pbN | apply bl1) | exact HB.out)⟩
                    · replace c108 := Bool.eq_false_iff.mpr c108
                      subst c108
                      have H1 : (if t104 = 0 then (if (t102.size : Int) > 2997 then (some true) else (if t102.size + 3 ≤ 9223372036854775807 then ((impl_Lex.f k1 (t102 ++ (⟨#[32, 10, 32]⟩ : ByteArray))).bind fun bt154 => (if bt154.2 = 0 then (some ((bt154.1.length : Int) == (t103.length : Int))) else (some false))) else (none))) else (some ((t103.length : Int) == 0))) = some r := by rw [if_neg (show ¬ (false = true) by decide)] at H; exact H
                      clear H
                      have H := H1
                      clear H1
                      by_cases c129 : t104 = 0
                      · rw [if_pos c129] at H
                        have c129b0 : (t104 == 0) = true := beq_iff_eq.mpr c129
                        have c129b1 : (t104 != 0) = false := bne_eq_false_iff_eq.mpr c129
                        clear c129
                        by_cases c130 : (t102.size : Int) > 2997
                        · rw [if_pos c130] at H
                          have c130b0 : decide (2997 < (t102.size : Int)) = true := decide_eq_true c130
                          have c130b1 : decide (2997 < t102.size) = true := decide_eq_true (by omega)
                          clear c130
                          obtain rfl := Option.some.inj H
                          go_wp2_with (first | (go_at_call 39; (with_reducible refine (impl_IsWord.calls k1 t112 false _ A107.out).mono ?_); rintro e w131 ⟨rfl, hb⟩; have n0_ := Zs0.mk (Kd.R_below (by (with_reducible repeat (first | apply Kd.R_alloc | apply Kd.R_drewN | apply Kd.R_drew)); exact HO_4.out) hb); have n1_ := Zs0.mk (Kd.R_below (by (with_reducible repeat (first | apply Kd.R_alloc | apply Kd.R_drewN | apply Kd.R_drew)); exact HO_6.out) hb); have n2_ := Zs0.mk (blT (by repeat (first | (with_reducible first | exact HB.out | apply blA | apply pbN | apply bl1) | exact HB.out)) hb); clear HO_4; clear HO_6; clear HB; have HO_4 := n0_; have HO_6 := n1_; have HB := n2_; clear n0_ n1_ n2_; (try clear hb); (try clear hb2); (try clear hk); (try clear hi)))
                          go_ret
                          exact ⟨by first | rfl | (simp [eWn, eWs] <;> rfl) | (simp [*, eWn, eWs] <;> rfl), by repeat (first | (with_reducible first | exact HB.out | apply blA | apply pbN | apply bl1) | exact HB.out)⟩
                        · rw [if_neg c130] at H
                          have c130b0 : decide (2997 < (t102.size : Int)) = false := decide_eq_false c130
                          have c130b1 : decide (2997 < t102.size) = false := decide_eq_false (by omega)
                          clear c130
                          have c132 := ipos H
                          rw [if_pos c132] at H
                          have c132b0 := eq_true c132
                          have c132b1 := decide_eq_true c132
                          try have c132b2 := eq_false (Nat.not_lt.2 c132)
                          replace H := Option.bind_eq_some_iff.mp H
                          obtain ⟨⟨t154, t155⟩, A1330, H⟩ := H
                          try dsimp only at H
                          have A133 := Zs0.mk A1330
                          clear A1330
                          by_cases c134 : t155 = 0
                          · rw [if_pos c134] at H
                            have c134b0 : (t155 == 0) = true := beq_iff_eq.mpr c134
                            have c134b1 : (t155 != 0) = false := bne_eq_false_iff_eq.mpr c134
                            clear c134
                            obtain rfl := Option.some.inj H
                            go_wp2_with (first | (go_at_call 39; (with_reducible refine (impl_IsWord.calls k1 t112 false _ A107.out).mono ?_); rintro e w135 ⟨rfl, hb⟩; have n0_ := Zs0.mk (Kd.R_below (by (with_reducible repeat (first | apply Kd.R_alloc | apply Kd.R_drewN | apply Kd.R_drew)); exact HO_4.out) hb); have n1_ := Zs0.mk (Kd.R_below (by (with_reducible repeat (first | apply Kd.R_alloc | apply Kd.R_drewN | apply Kd.R_drew)); exact HO_6.out) hb); have n2_ := Zs0.mk (blT (by repeat (first | (with_reducible first | exact HB.out | apply blA | apply pbN | apply bl1) | exact HB.out)) hb); clear HO_4; clear HO_6; clear HB; have HO_4 := n0_; have HO_6 := n1_; have HB := n2_; clear n0_ n1_ n2_; (try clear hb); (try clear hb2); (try clear hk); (try clear hi)) | (go_at_call 28; (with_reducible refine (impl_Lex.calls k1 (t102 ++ (⟨#[32, 10, 32]⟩ : ByteArray)) t154 t155 _ A133.out (tabEB (tabAE HT.out) (by repeat (first | (with_reducible first | exact HB.out | apply blA | apply pbN | apply bl1) | exact HB.out)))).mono ?_); rintro e w136 ⟨v156, rfl, ho0, hb⟩; have n0_ := Zs0.mk (Kd.R_elder' (by (with_reducible repeat (first | apply Kd.R_alloc | apply Kd.R_drewN | apply Kd.R_drew)); exact HO_4.out) (Kd.R_base ho0) hb); have n1_ := Zs0.mk (Kd.R_elder' (by (with_reducible repeat (first | apply Kd.R_alloc | apply Kd.R_drewN | apply Kd.R_drew)); exact HO_6.out) (Kd.R_base ho0) hb); have n2_ := Zs0.mk (Kd.R_lower (Kd.R_new' (Kd.R_new' ho0 (Kd.R_lt (by (with_reducible repeat (first | apply Kd.R_alloc | apply Kd.R_drewN | apply Kd.R_drew)); exact HO_4.out))) (Kd.R_lt (by (with_reducible repeat (first | apply Kd.R_alloc | apply Kd.R_drewN | apply Kd.R_drew)); exact HO_6.out))) (blZ (by repeat (first | (with_reducible first | exact HB.out | apply blA | apply pbN | apply bl1) | exact HB.out)))); have n3_ := Zs0.mk (blT (by repeat (first | (with_reducible first | exact HB.out | apply blA | apply pbN | apply bl1) | exact HB.out)) hb); clear HO_4; clear HO_6; clear HB; have HO_4 := n0_; have HO_6 := n1_; have HO157 := n2_; have HB := n3_; clear n0_ n1_ n2_ n3_; (try clear hb); (try clear hb2); (try clear hk); (try clear hi); (try clear ho0); obtain ⟨Ao137, co137, eo137⟩ := Kd.R_slice HO157.out; subst eo137))
                            go_ret
                            exact ⟨by first | rfl | (simp [eWn, eWs] <;> rfl) | (simp [*, eWn, eWs] <;> rfl), by repeat (first | (with_reducible first | exact HB.out | apply blA | apply pbN | apply bl1) | exact HB.out)⟩
                          · rw [if_neg c134] at H
                            have c134b0 : (t155 == 0) = false := beq_eq_false_iff_ne.mpr c134
                            have c134b1 : (t155 != 0) = true := bne_iff_ne.mpr c134
                            obtain rfl := Option.some.inj H
                            go_wp2_with (first | (go_at_call 39; (with_reducible refine (impl_IsWord.calls k1 t112 false _ A107.out).mono ?_); rintro e w138 ⟨rfl, hb⟩; have n0_ := Zs0.mk (Kd.R_below (by (with_reducible repeat (first | apply Kd.R_alloc | apply Kd.R_drewN | apply Kd.R_drew)); exact HO_4.out) hb); have n1_ := Zs0.mk (Kd.R_below (by (with_reducible repeat (first | apply Kd.R_alloc | apply Kd.R_drewN | apply Kd.R_drew)); exact HO_6.out) hb); have n2_ := Zs0.mk (blT (by repeat (first | (with_reducible first | exact HB.out | apply blA | apply pbN | apply bl1) | exact HB.out)) hb); clear HO_4; clear HO_6; clear HB; have HO_4 := n0_; have HO_6 := n1_; have HB := n2_; clear n0_ n1_ n2_; (try clear hb); (try clear hb2); (try clear hk); (try clear hi)) | (go_at_call 28; (with_reducible refine (impl_Lex.calls k1 (t102 ++ (⟨#[32, 10, 32]⟩ : ByteArray)) t154 t155 _ A133.out (tabEB (tabAE HT.out) (by repeat (first | (with_reducible first | exact HB.out | apply blA | apply pbN | apply bl1) | exact HB.out)))).mono ?_); rintro e w139 ⟨v156, rfl, ho0, hb⟩; have n0_ := Zs0.mk (Kd.R_elder' (by (with_reducible repeat (first | apply Kd.R_alloc | apply Kd.R_drewN | apply Kd.R_drew)); exact HO_4.out) (Kd.R_base ho0) hb); have n1_ := Zs0.mk (Kd.R_elder' (by (with_reducible repeat (first | apply Kd.R_alloc | apply Kd.R_drewN | apply Kd.R_drew)); exact HO_6.out) (Kd.R_base ho0) hb); have n2_ := Zs0.mk (Kd.R_lower (Kd.R_new' (Kd.R_new' ho0 (Kd.R_lt (by (with_reducible repeat (first | apply Kd.R_alloc | apply Kd.R_drewN | apply Kd.R_drew)); exact HO_4.out))) (Kd.R_lt (by (with_reducible repeat (first | apply Kd.R_alloc | apply Kd.R_drewN | apply Kd.R_drew)); exact HO_6.out))) (blZ (by repeat (first | (with_reducible first | exact HB.out | apply blA | apply pbN | apply bl1) | exact HB.out)))); have n3_ := Zs0.mk (blT (by repeat (first | (with_reducible first | exact HB.out | apply blA | apply pbN | apply bl1) | exact HB.out)) hb); clear HO_4; clear HO_6; clear HB; have HO_4 := n0_; have HO_6 := n1_; have HO157 := n2_; have HB := n3_; clear n0_ n1_ n2_ n3_; (try clear hb); (try clear hb2); (try clear hk); (try clear hi); (try clear ho0)))
                            go_ret
                            exact ⟨by first | rfl | (simp [eWn, eWs] <;> rfl) | (simp [*, eWn, eWs] <;> rfl), by repeat (first | (with_reducible first | exact HB.out | apply blA | apply pbN | apply bl1) | exact HB.out)⟩
                      · rw [if_neg c129] at H
                        have c129b0 : (t104 == 0) = false := beq_eq_false_iff_ne.mpr c129
                        have c129b1 : (t104 != 0) = true := bne_iff_ne.mpr c129
                        obtain rfl := Option.some.inj H
                        go_wp2_with (first | (go_at_call 39; (with_reducible refine (impl_IsWord.calls k1 t112 false _ A107.out).mono ?_); rintro e w140 ⟨rfl, hb⟩; have n0_ := Zs0.mk (Kd.R_below (by (with_reducible repeat (first | apply Kd.R_alloc | apply Kd.R_drewN | apply Kd.R_drew)); exact HO_4.out) hb); have n1_ := Zs0.mk (Kd.R_below (by (with_reducible repeat (first | apply Kd.R_alloc | apply Kd.R_drewN | apply Kd.R_drew)); exact HO_6.out) hb); have n2_ := Zs0.mk (blT (by repeat (first | (with_reducible first | exact HB.out | apply blA | apply pbN | apply bl1) | exact HB.out)) hb); clear HO_4; clear HO_6; clear HB; have HO_4 := n0_; have HO_6 := n1_; have HB := n2_; clear n0_ n1_ n2_; (try clear hb); (try clear hb2); (try clear hk); (try clear hi)))
                        go_ret
                        exact ⟨by first | rfl | (simp [eWn, eWs] <;> rfl) | (simp [*, eWn, eWs] <;> rfl), by repeat (first | (with_reducible first | exact HB.out | apply blA | apply pbN | apply bl1) | exact HB.out)⟩
          · replace c30 := Bool.eq_false_iff.mpr c30
            subst c30
            have H1 : (none) = some r := by rw [if_neg (show ¬ (false = true) by decide)] at H; exact H
            clear H
            have H := H1
            clear H1
            exact absurd H (by simp)

end Go.Proofs.YtbihpjngmjkjmaaDoor.P
