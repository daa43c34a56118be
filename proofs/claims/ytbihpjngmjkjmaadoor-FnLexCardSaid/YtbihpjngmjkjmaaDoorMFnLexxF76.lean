/- Printed by a program over this seat's translation: a Lean function for each Go function, and that the Go code comes to its answers. -/
import Derived.Test.YtbihpjngmjkjmaaDoorMFnLex0a
import Derived.Test.YtbihpjngmjkjmaaDoorMFnLex0b
import Derived.Test.YtbihpjngmjkjmaaDoorMFnLexxF91
namespace Go.Proofs.YtbihpjngmjkjmaaDoor.P
open Go.RowKit Go.Proofs.YtbihpjngmjkjmaaDoorW.PrintWords Go.Proofs.YtbihpjngmjkjmaaDoorW.PrintLast Go.Proofs.YtbihpjngmjkjmaaDoorW.PrintMore
attribute [local go_sem] max2_int min2_int max_two min_two max_three min_three max_four min_four   -- for this text's walks alone
set_option linter.unusedVariables false
set_option linter.unusedSimpArgs false

/-! ### spec_l01Stmt: function 76 -/
mutual
def spec_l01Stmt.j0 : Nat → List ByteArray → Int → ByteArray → Int → Bool → List Int → Int → Int → Option (ByteArray × Int × Int)
  | 0, _, _, _, _, _, _, _, _ => none
  | k + 1, x1, x2, x7, x12, x13, x1000, x1001, x1002 => if x13 = true then ((spec_l01Pick.f x1000 x1001 x1002 (([(⟨#[97]⟩ : ByteArray), (⟨#[98]⟩ : ByteArray), (⟨#[112]⟩ : ByteArray), (⟨#[97]⟩ : ByteArray)] : List ByteArray))).bind fun bt110 => (if bt110.1.size + 1 ≤ 9223372036854775807 then ((spec_l01Pick.f x1000 bt110.2.1 bt110.2.2 (([(⟨#[48]⟩ : ByteArray), (⟨#[49]⟩ : ByteArray), (⟨#[120]⟩ : ByteArray), (⟨#[120, 32, 43, 32, 49]⟩ : ByteArray), (⟨#[121, 32, 38, 32, 51]⟩ : ByteArray), (⟨#[50]⟩ : ByteArray)] : List ByteArray))).bind fun bt116 => (if (bt110.1 ++ (⟨#[91]⟩ : ByteArray)).size + bt116.1.size ≤ 9223372036854775807 then (if ((bt110.1 ++ (⟨#[91]⟩ : ByteArray)) ++ bt116.1).size + 4 ≤ 9223372036854775807 then (if (((bt110.1 ++ (⟨#[91]⟩ : ByteArray)) ++ bt116.1) ++ (⟨#[93, 32, 61, 32]⟩ : ByteArray)).size + x7.size ≤ 9223372036854775807 then (if ((((bt110.1 ++ (⟨#[91]⟩ : ByteArray)) ++ bt116.1) ++ (⟨#[93, 32, 61, 32]⟩ : ByteArray)) ++ x7).size + 2 ≤ 9223372036854775807 then (some (((((bt110.1 ++ (⟨#[91]⟩ : ByteArray)) ++ bt116.1) ++ (⟨#[93, 32, 61, 32]⟩ : ByteArray)) ++ x7) ++ (⟨#[59, 10]⟩ : ByteArray), bt116.2.1, bt116.2.2)) else (none)) else (none)) else (none)) else (none))) else (none))) else (if x12 = 3 then (spec_l01Stmt.j1 k x1 x2 x7 x12 (x12 == 3) x1000 x1001 x1002) else (spec_l01Stmt.j1 k x1 x2 x7 x12 (x12 == 4) x1000 x1001 x1002))
def spec_l01Stmt.j1 : Nat → List ByteArray → Int → ByteArray → Int → Bool → List Int → Int → Int → Option (ByteArray × Int × Int)
  | 0, _, _, _, _, _, _, _, _ => none
  | k + 1, x1, x2, x7, x12, x29, x1000, x1001, x1002 => if x29 = true then ((spec_l01Pick.f x1000 x1001 x1002 (([(⟨#[120]⟩ : ByteArray), (⟨#[121]⟩ : ByteArray), (⟨#[122]⟩ : ByteArray)] : List ByteArray))).bind fun bt122 => (if bt122.1.size + 3 ≤ 9223372036854775807 then ((spec_l01Pick.f x1000 bt122.2.1 bt122.2.2 (([(⟨#[97]⟩ : ByteArray), (⟨#[98]⟩ : ByteArray), (⟨#[112]⟩ : ByteArray)] : List ByteArray))).bind fun bt128 => (if (bt122.1 ++ (⟨#[32, 61, 32]⟩ : ByteArray)).size + bt128.1.size ≤ 9223372036854775807 then (if ((bt122.1 ++ (⟨#[32, 61, 32]⟩ : ByteArray)) ++ bt128.1).size + 1 ≤ 9223372036854775807 then ((spec_l01Pick.f x1000 bt128.2.1 bt128.2.2 (([(⟨#[48]⟩ : ByteArray), (⟨#[49]⟩ : ByteArray), (⟨#[120, 32, 38, 32, 51]⟩ : ByteArray), (⟨#[120, 32, 43, 32, 49]⟩ : ByteArray), (⟨#[50]⟩ : ByteArray)] : List ByteArray))).bind fun bt134 => (if (((bt122.1 ++ (⟨#[32, 61, 32]⟩ : ByteArray)) ++ bt128.1) ++ (⟨#[91]⟩ : ByteArray)).size + bt134.1.size ≤ 9223372036854775807 then (if ((((bt122.1 ++ (⟨#[32, 61, 32]⟩ : ByteArray)) ++ bt128.1) ++ (⟨#[91]⟩ : ByteArray)) ++ bt134.1).size + 3 ≤ 9223372036854775807 then (some (((((bt122.1 ++ (⟨#[32, 61, 32]⟩ : ByteArray)) ++ bt128.1) ++ (⟨#[91]⟩ : ByteArray)) ++ bt134.1) ++ (⟨#[93, 59, 10]⟩ : ByteArray), bt134.2.1, bt134.2.2)) else (none)) else (none))) else (none)) else (none))) else (none))) else (if x12 = 5 then (if 4 + x7.size ≤ 9223372036854775807 then (if ((⟨#[112, 117, 116, 32]⟩ : ByteArray) ++ x7).size + 2 ≤ 9223372036854775807 then (some (((⟨#[112, 117, 116, 32]⟩ : ByteArray) ++ x7) ++ (⟨#[59, 10]⟩ : ByteArray), x1001, x1002)) else (none)) else (none)) else (if x12 = 6 then (if x2 > 0 then (if 3 + x7.size ≤ 9223372036854775807 then (if ((⟨#[105, 102, 32]⟩ : ByteArray) ++ x7).size + 3 ≤ 9223372036854775807 then ((spec_l01Stmt.f k x1000 x1001 x1002 x1 (wrap64 (x2 - 1))).bind fun bt137 => (if (((⟨#[105, 102, 32]⟩ : ByteArray) ++ x7) ++ (⟨#[32, 123, 10]⟩ : ByteArray)).size + bt137.1.size ≤ 9223372036854775807 then ((spec_l01Stmt.f k x1000 bt137.2.1 bt137.2.2 x1 (wrap64 (x2 - 1))).bind fun bt140 => (if ((((⟨#[105, 102, 32]⟩ : ByteArray) ++ x7) ++ (⟨#[32, 123, 10]⟩ : ByteArray)) ++ bt137.1).size + bt140.1.size ≤ 9223372036854775807 then (if (((((⟨#[105, 102, 32]⟩ : ByteArray) ++ x7) ++ (⟨#[32, 123, 10]⟩ : ByteArray)) ++ bt137.1) ++ bt140.1).size + 9 ≤ 9223372036854775807 then ((spec_l01Stmt.f k x1000 bt140.2.1 bt140.2.2 x1 (wrap64 (x2 - 1))).bind fun bt143 => (if ((((((⟨#[105, 102, 32]⟩ : ByteArray) ++ x7) ++ (⟨#[32, 123, 10]⟩ : ByteArray)) ++ bt137.1) ++ bt140.1) ++ (⟨#[125, 32, 101, 108, 115, 101, 32, 123, 10]⟩ : ByteArray)).size + bt143.1.size ≤ 9223372036854775807 then (if (((((((⟨#[105, 102, 32]⟩ : ByteArray) ++ x7) ++ (⟨#[32, 123, 10]⟩ : ByteArray)) ++ bt137.1) ++ bt140.1) ++ (⟨#[125, 32, 101, 108, 115, 101, 32, 123, 10]⟩ : ByteArray)) ++ bt143.1).size + 2 ≤ 9223372036854775807 then (some ((((((((⟨#[105, 102, 32]⟩ : ByteArray) ++ x7) ++ (⟨#[32, 123, 10]⟩ : ByteArray)) ++ bt137.1) ++ bt140.1) ++ (⟨#[125, 32, 101, 108, 115, 101, 32, 123, 10]⟩ : ByteArray)) ++ bt143.1) ++ (⟨#[125, 10]⟩ : ByteArray), bt143.2.1, bt143.2.2)) else (none)) else (none))) else (none)) else (none))) else (none))) else (none)) else (none)) else ((spec_l01Pick.f x1000 x1001 x1002 (([(⟨#[120]⟩ : ByteArray), (⟨#[121]⟩ : ByteArray), (⟨#[122]⟩ : ByteArray), (⟨#[120]⟩ : ByteArray)] : List ByteArray))).bind fun bt149 => (if bt149.1.size + 3 ≤ 9223372036854775807 then (if (bt149.1 ++ (⟨#[32, 61, 32]⟩ : ByteArray)).size + x7.size ≤ 9223372036854775807 then (if ((bt149.1 ++ (⟨#[32, 61, 32]⟩ : ByteArray)) ++ x7).size + 2 ≤ 9223372036854775807 then (some (((bt149.1 ++ (⟨#[32, 61, 32]⟩ : ByteArray)) ++ x7) ++ (⟨#[59, 10]⟩ : ByteArray), bt149.2.1, bt149.2.2)) else (none)) else (none)) else (none)))) else (if x12 = 7 then (if x2 > 0 then ((spec_l01Pick.f x1000 x1001 x1002 (([(⟨#[50]⟩ : ByteArray), (⟨#[51]⟩ : ByteArray), (⟨#[49]⟩ : ByteArray)] : List ByteArray))).bind fun bt155 => (if 4 + bt155.1.size ≤ 9223372036854775807 then (if ((⟨#[110, 32, 61, 32]⟩ : ByteArray) ++ bt155.1).size + 23 ≤ 9223372036854775807 then ((spec_l01Stmt.f k x1000 bt155.2.1 bt155.2.2 x1 0).bind fun bt158 => (if (((⟨#[110, 32, 61, 32]⟩ : ByteArray) ++ bt155.1) ++ (⟨#[59, 10, 119, 104, 105, 108, 101, 32, 110, 32, 123, 10, 110, 32, 61, 32, 110, 32, 45, 32, 49, 59, 10]⟩ : ByteArray)).size + bt158.1.size ≤ 9223372036854775807 then ((spec_l01Stmt.f k x1000 bt158.2.1 bt158.2.2 x1 0).bind fun bt161 => (if ((((⟨#[110, 32, 61, 32]⟩ : ByteArray) ++ bt155.1) ++ (⟨#[59, 10, 119, 104, 105, 108, 101, 32, 110, 32, 123, 10, 110, 32, 61, 32, 110, 32, 45, 32, 49, 59, 10]⟩ : ByteArray)) ++ bt158.1).size + bt161.1.size ≤ 9223372036854775807 then (if (((((⟨#[110, 32, 61, 32]⟩ : ByteArray) ++ bt155.1) ++ (⟨#[59, 10, 119, 104, 105, 108, 101, 32, 110, 32, 123, 10, 110, 32, 61, 32, 110, 32, 45, 32, 49, 59, 10]⟩ : ByteArray)) ++ bt158.1) ++ bt161.1).size + 2 ≤ 9223372036854775807 then (some ((((((⟨#[110, 32, 61, 32]⟩ : ByteArray) ++ bt155.1) ++ (⟨#[59, 10, 119, 104, 105, 108, 101, 32, 110, 32, 123, 10, 110, 32, 61, 32, 110, 32, 45, 32, 49, 59, 10]⟩ : ByteArray)) ++ bt158.1) ++ bt161.1) ++ (⟨#[125, 10]⟩ : ByteArray), bt161.2.1, bt161.2.2)) else (none)) else (none))) else (none))) else (none)) else (none))) else ((spec_l01Pick.f x1000 x1001 x1002 (([(⟨#[120]⟩ : ByteArray), (⟨#[121]⟩ : ByteArray), (⟨#[122]⟩ : ByteArray), (⟨#[120]⟩ : ByteArray)] : List ByteArray))).bind fun bt167 => (if bt167.1.size + 3 ≤ 9223372036854775807 then (if (bt167.1 ++ (⟨#[32, 61, 32]⟩ : ByteArray)).size + x7.size ≤ 9223372036854775807 then (if ((bt167.1 ++ (⟨#[32, 61, 32]⟩ : ByteArray)) ++ x7).size + 2 ≤ 9223372036854775807 then (some (((bt167.1 ++ (⟨#[32, 61, 32]⟩ : ByteArray)) ++ x7) ++ (⟨#[59, 10]⟩ : ByteArray), bt167.2.1, bt167.2.2)) else (none)) else (none)) else (none)))) else (if x12 = 8 then ((spec_l01Pick.f x1000 x1001 x1002 (([(⟨#[48]⟩ : ByteArray), (⟨#[49]⟩ : ByteArray), (⟨#[120, 32, 38, 32, 51]⟩ : ByteArray), (⟨#[112, 32, 43, 32, 49]⟩ : ByteArray), (⟨#[50]⟩ : ByteArray)] : List ByteArray))).bind fun bt173 => (if 4 + bt173.1.size ≤ 9223372036854775807 then (if ((⟨#[112, 32, 61, 32]⟩ : ByteArray) ++ bt173.1).size + 2 ≤ 9223372036854775807 then (some (((⟨#[112, 32, 61, 32]⟩ : ByteArray) ++ bt173.1) ++ (⟨#[59, 10]⟩ : ByteArray), bt173.2.1, bt173.2.2)) else (none)) else (none))) else (if x12 = 9 then ((spec_l01Once.f x1000 x1001 x1002 3).bind fun bt176 => (if bt176.1 = true then (if 7 + x7.size ≤ 9223372036854775807 then (if ((⟨#[114, 101, 116, 117, 114, 110, 32]⟩ : ByteArray) ++ x7).size + 2 ≤ 9223372036854775807 then (some (((⟨#[114, 101, 116, 117, 114, 110, 32]⟩ : ByteArray) ++ x7) ++ (⟨#[59, 10]⟩ : ByteArray), bt176.2.1, bt176.2.2)) else (none)) else (none)) else ((spec_l01Pick.f x1000 bt176.2.1 bt176.2.2 (([(⟨#[120]⟩ : ByteArray), (⟨#[121]⟩ : ByteArray), (⟨#[122]⟩ : ByteArray), (⟨#[120]⟩ : ByteArray)] : List ByteArray))).bind fun bt182 => (if bt182.1.size + 3 ≤ 9223372036854775807 then (if (bt182.1 ++ (⟨#[32, 61, 32]⟩ : ByteArray)).size + x7.size ≤ 9223372036854775807 then (if ((bt182.1 ++ (⟨#[32, 61, 32]⟩ : ByteArray)) ++ x7).size + 2 ≤ 9223372036854775807 then (some (((bt182.1 ++ (⟨#[32, 61, 32]⟩ : ByteArray)) ++ x7) ++ (⟨#[59, 10]⟩ : ByteArray), bt182.2.1, bt182.2.2)) else (none)) else (none)) else (none))))) else ((spec_l01Pick.f x1000 x1001 x1002 (([(⟨#[120]⟩ : ByteArray), (⟨#[121]⟩ : ByteArray), (⟨#[122]⟩ : ByteArray), (⟨#[120]⟩ : ByteArray)] : List ByteArray))).bind fun bt188 => (if bt188.1.size + 3 ≤ 9223372036854775807 then (if (bt188.1 ++ (⟨#[32, 61, 32]⟩ : ByteArray)).size + x7.size ≤ 9223372036854775807 then (if ((bt188.1 ++ (⟨#[32, 61, 32]⟩ : ByteArray)) ++ x7).size + 2 ≤ 9223372036854775807 then (some (((bt188.1 ++ (⟨#[32, 61, 32]⟩ : ByteArray)) ++ x7) ++ (⟨#[59, 10]⟩ : ByteArray), bt188.2.1, bt188.2.2)) else (none)) else (none)) else (none))))))))
def spec_l01Stmt.f : Nat → List Int → Int → Int → List ByteArray → Int → Option (ByteArray × Int × Int)
  | 0, _, _, _, _, _ => none
  | k + 1, s0_0, s0_1, s0_2, l1, a2 => (spec_l01Exp.f k s0_0 s0_1 s0_2 l1 2).bind fun bt101 => ((spec_l01Below.f s0_0 bt101.2.1 bt101.2.2 13).bind fun bt104 => (if bt104.1 = 0 then (spec_l01Stmt.j0 k l1 a2 bt101.1 bt104.1 (bt104.1 == 0) s0_0 bt104.2.1 bt104.2.2) else (if bt104.1 = 1 then (spec_l01Stmt.j0 k l1 a2 bt101.1 bt104.1 (bt104.1 == 1) s0_0 bt104.2.1 bt104.2.2) else (spec_l01Stmt.j0 k l1 a2 bt101.1 bt104.1 (bt104.1 == 2) s0_0 bt104.2.1 bt104.2.2))))
end
theorem spec_l01Stmt.mono_l : ∀ k, (∀ y0 y1 y2 y3 y4, LeO (spec_l01Stmt.f k y0 y1 y2 y3 y4) (spec_l01Stmt.f (k + 1) y0 y1 y2 y3 y4)) ∧ (∀ y0 y1 y2 y3 y4 y5 y6 y7, LeO (spec_l01Stmt.j0 k y0 y1 y2 y3 y4 y5 y6 y7) (spec_l01Stmt.j0 (k + 1) y0 y1 y2 y3 y4 y5 y6 y7)) ∧ (∀ y0 y1 y2 y3 y4 y5 y6 y7, LeO (spec_l01Stmt.j1 k y0 y1 y2 y3 y4 y5 y6 y7) (spec_l01Stmt.j1 (k + 1) y0 y1 y2 y3 y4 y5 y6 y7))
  | 0 => ⟨fun _ _ _ _ _ r h => by simp [spec_l01Stmt.f] at h, fun _ _ _ _ _ _ _ _ r h => by simp [spec_l01Stmt.j0] at h, fun _ _ _ _ _ _ _ _ r h => by simp [spec_l01Stmt.j1] at h⟩
  | k + 1 => by
    obtain ⟨ih0, ih1, ih2⟩ := spec_l01Stmt.mono_l k
    refine ⟨?_, ?_, ?_⟩
    · intro y0 y1 y2 y3 y4
      unfold spec_l01Stmt.f
      repeat' first
      | (with_reducible exact ih0 _ _ _ _ _)
      | (with_reducible exact ih1 _ _ _ _ _ _ _ _)
      | (with_reducible exact ih2 _ _ _ _ _ _ _ _)
      | (with_reducible exact spec_l01Exp.mono _ _ _ _ _ _)
      | (with_reducible exact LeO.refl _)
      | (with_reducible exact LeO.none _)
      | (with_reducible refine LeO.ite ?_ ?_)
      | (with_reducible refine LeO.bind ?_ (fun _ => ?_))
      | exact ih0 _ _ _ _ _
      | exact ih1 _ _ _ _ _ _ _ _
      | exact ih2 _ _ _ _ _ _ _ _
      | exact spec_l01Exp.mono _ _ _ _ _ _
      | exact LeO.none _
      | refine LeO.ite ?_ ?_
      | refine LeO.bind ?_ (fun _ => ?_)
    · intro y0 y1 y2 y3 y4 y5 y6 y7
      unfold spec_l01Stmt.j0
      repeat' first
      | (with_reducible exact ih0 _ _ _ _ _)
      | (with_reducible exact ih1 _ _ _ _ _ _ _ _)
      | (with_reducible exact ih2 _ _ _ _ _ _ _ _)
      | (with_reducible exact spec_l01Exp.mono _ _ _ _ _ _)
      | (with_reducible exact LeO.refl _)
      | (with_reducible exact LeO.none _)
      | (with_reducible refine LeO.ite ?_ ?_)
      | (with_reducible refine LeO.bind ?_ (fun _ => ?_))
      | exact ih0 _ _ _ _ _
      | exact ih1 _ _ _ _ _ _ _ _
      | exact ih2 _ _ _ _ _ _ _ _
      | exact spec_l01Exp.mono _ _ _ _ _ _
      | exact LeO.none _
      | refine LeO.ite ?_ ?_
      | refine LeO.bind ?_ (fun _ => ?_)
    · intro y0 y1 y2 y3 y4 y5 y6 y7
      unfold spec_l01Stmt.j1
      repeat' first
      | (with_reducible exact ih0 _ _ _ _ _)
      | (with_reducible exact ih1 _ _ _ _ _ _ _ _)
      | (with_reducible exact ih2 _ _ _ _ _ _ _ _)
      | (with_reducible exact spec_l01Exp.mono _ _ _ _ _ _)
      | (with_reducible exact LeO.refl _)
      | (with_reducible exact LeO.none _)
      | (with_reducible refine LeO.ite ?_ ?_)
      | (with_reducible refine LeO.bind ?_ (fun _ => ?_))
      | exact ih0 _ _ _ _ _
      | exact ih1 _ _ _ _ _ _ _ _
      | exact ih2 _ _ _ _ _ _ _ _
      | exact spec_l01Exp.mono _ _ _ _ _ _
      | exact LeO.none _
      | refine LeO.ite ?_ ?_
      | refine LeO.bind ?_ (fun _ => ?_)
theorem spec_l01Stmt.mono : ∀ a0 a1 a2 a3 a4 k, LeO (spec_l01Stmt.f k a0 a1 a2 a3 a4) (spec_l01Stmt.f (k + 1) a0 a1 a2 a3 a4) := by
  intro a0 a1 a2 a3 a4 k
  obtain ⟨ih0, ih1, ih2⟩ := spec_l01Stmt.mono_l k
  exact ih0 a0 a1 a2 a3 a4
set_option maxHeartbeats 8000000 in
set_option maxRecDepth 100000 in
theorem spec_l01Stmt.calls (k : Nat) : ∀ (g : Nat) (s0_0 : List Int) (s0_1 : Int) (s0_2 : Int) (A1 : Option Addr) (c1 : Nat) (l1 : List ByteArray) (a2 : Int) (r1 : ByteArray) (r2 : Int) (r3 : Int) (w0 w : World) (hI : IsS86 w0 w g s0_0 s0_1 s0_2) (hB : Below w0.heap.size w0 w) (hr1 : Kd.C Kd.string w A1 l1.length l1) (hc1 : l1.length ≤ c1) (hf1 : ∀ ad, A1 = some ad → 0 < l1.length → ad.block ≠ g) (h : spec_l01Stmt.f k s0_0 s0_1 s0_2 l1 a2 = some (r1, r2, r3)),
    Calls Tryd.prog 76 #[.pointer (some ⟨g, 0, none⟩), .slice A1 l1.length c1, .int .i64 a2] w fun e w' => e = .returned (.string r1) ∧ IsS86 w0 w' g s0_0 r2 r3 ∧ Below w0.heap.size w0 w' ∧ KeepBut w w' g none := by
  induction k using Nat.strongRecOn with
  | _ k ih =>
  intro g s0_0 s0_1 s0_2 A1 c1 l1 a2 r1 r2 r3 w0 w hI hB hr1 hc1 hf1 h
  cases k with
  | zero => exact absurd h (by simp [spec_l01Stmt.f])
  | succ k =>
  simp only [spec_l01Stmt.f] at h
  have HR1 := Zs0.mk hr1
  have HC1 := Zs0.mk hc1
  clear hr1 hc1
  have HI0 := Zs0.mk hI
  have HK := Zs0.mk (KeepBut.refl w g none)
  have HL := Zs0.mk hB.size
  clear hI
  have HW0 := Zs0.mk hB.size
  have HB := Zs0.mk hB
  clear hB
  have H : ((spec_l01Exp.f k s0_0 s0_1 s0_2 l1 2).bind fun bt101 => ((spec_l01Below.f s0_0 bt101.2.1 bt101.2.2 13).bind fun bt104 => (if bt104.1 = 0 then (spec_l01Stmt.j0 k l1 a2 bt101.1 bt104.1 (bt104.1 == 0) s0_0 bt104.2.1 bt104.2.2) else (if bt104.1 = 1 then (spec_l01Stmt.j0 k l1 a2 bt101.1 bt104.1 (bt104.1 == 1) s0_0 bt104.2.1 bt104.2.2) else (spec_l01Stmt.j0 k l1 a2 bt101.1 bt104.1 (bt104.1 == 2) s0_0 bt104.2.1 bt104.2.2))))) = some (r1, r2, r3) := h
  clear h
  replace H := Option.bind_eq_some_iff.mp H
  obtain ⟨⟨t101, t102, t103⟩, A40, H⟩ := H
  replace H : ((spec_l01Below.f s0_0 t102 t103 13).bind fun bt104 => (if bt104.1 = 0 then (spec_l01Stmt.j0 k l1 a2 t101 bt104.1 (bt104.1 == 0) s0_0 bt104.2.1 bt104.2.2) else (if bt104.1 = 1 then (spec_l01Stmt.j0 k l1 a2 t101 bt104.1 (bt104.1 == 1) s0_0 bt104.2.1 bt104.2.2) else (spec_l01Stmt.j0 k l1 a2 t101 bt104.1 (bt104.1 == 2) s0_0 bt104.2.1 bt104.2.2)))) = some (r1, r2, r3) := H
  have A4 := Zs0.mk A40
  clear A40
  replace H := Option.bind_eq_some_iff.mp H
  obtain ⟨⟨t104, t105, t106⟩, A50, H⟩ := H
  replace H : (if t104 = 0 then (spec_l01Stmt.j0 k l1 a2 t101 t104 (t104 == 0) s0_0 t105 t106) else (if t104 = 1 then (spec_l01Stmt.j0 k l1 a2 t101 t104 (t104 == 1) s0_0 t105 t106) else (spec_l01Stmt.j0 k l1 a2 t101 t104 (t104 == 2) s0_0 t105 t106))) = some (r1, r2, r3) := H
  have A5 := Zs0.mk A50
  clear A50
  have HC6 := Zs0.mk H
  clear H
  go_enter Tryd.func76, Tryd.ntmps76
  go_upto_if 13 with (first | ((with_reducible refine gtC (f := 91) rfl ?_); refine goesL_ (some 10) rfl rfl Tryd.func91 (by kernel_rfl) rfl #[.pointer (some ⟨g, 0, none⟩), .slice A1 l1.length c1, .int .i64 2] rfl (by (try simp only [List.map_toArray, List.map_cons, List.map_nil]); first | done | rfl | (simp only [List.length_drop, List.length_take]; rfl)) ?_; (with_reducible refine (spec_l01Exp.calls k g s0_0 s0_1 s0_2 _ _ l1 2 t101 t102 t103 w0 _ ?side1 ?side2 ?side3 ?side4 ?side5 A4.out).mono ?_); (case side1 => repeat (first | (with_reducible first | exact HI0.out | apply IsS86.alloc | apply IsS86.drewN | apply IsS86.drew | apply IsS86.set_1 | apply IsS86.set_2) | exact HI0.out)); (case side2 => repeat (first | (with_reducible first | exact HB.out | apply blA | apply pbN | apply bl1 | refine blS ?_ (IsS86.ge HI0.out)) | exact HB.out)); (case side3 => exact Kd.C_keep (⟨#[]⟩ : ByteArray) HR1.out (by repeat (first | (with_reducible first | exact HK.out | apply KeepBut.set_ | apply keep_drewN | apply keep_drew | apply keep_alloc) | exact HK.out)) hf1); (case side4 => exact HC1.out); (case side5 => exact hf1); rintro e w7 ⟨rfl, hi, hb, hk⟩; refine ⟨_, rfl, ?_⟩; have n0_ := Zs0.mk (KeepBut.trans (by repeat (first | (with_reducible first | exact HK.out | apply KeepBut.set_ | apply keep_drewN | apply keep_drew | apply keep_alloc) | exact HK.out)) hk (.inl rfl)); have n1_ := Zs0.mk (hb); have n2_ := Zs0.mk (hi); clear HK; clear HB; clear HI0; have HK := n0_; have HB := n1_; have HI0 := n2_; clear n0_ n1_ n2_; (try clear hb); (try clear hb2); (try clear hk); (try clear hi)) | ((with_reducible refine gtC (f := 60) rfl ?_); refine goesL_ (some 12) rfl rfl Tryd.func60 (by kernel_rfl) rfl #[.pointer (some ⟨g, 0, none⟩), .int .i64 13] rfl (by (try simp only [List.map_toArray, List.map_cons, List.map_nil]); first | done | rfl | (simp only [List.length_drop, List.length_take]; rfl)) ?_; (with_reducible refine (spec_l01Below.calls g s0_0 t102 t103 13 t104 t105 t106 w0 _ ?side1 ?side2 A5.out).mono ?_); (case side1 => repeat (first | (with_reducible first | exact HI0.out | apply IsS86.alloc | apply IsS86.drewN | apply IsS86.drew | apply IsS86.set_1 | apply IsS86.set_2) | exact HI0.out)); (case side2 => repeat (first | (with_reducible first | exact HB.out | apply blA | apply pbN | apply bl1 | refine blS ?_ (IsS86.ge HI0.out)) | exact HB.out)); rintro e w8 ⟨rfl, hi, hb, hk⟩; refine ⟨_, rfl, ?_⟩; have n0_ := Zs0.mk (KeepBut.trans (by repeat (first | (with_reducible first | exact HK.out | apply KeepBut.set_ | apply keep_drewN | apply keep_drew | apply keep_alloc) | exact HK.out)) hk (.inl rfl)); have n1_ := Zs0.mk (hb); have n2_ := Zs0.mk (hi); clear HK; clear HB; clear HI0; have HK := n0_; have HB := n1_; have HI0 := n2_; clear n0_ n1_ n2_; (try clear hb); (try clear hb2); (try clear hk); (try clear hi)))
  (try simp only [Act.put, List.setIfInBounds_toArray, List.set_cons_zero, List.set_cons_succ])
  go_cut [13] (fun v13 wc => ∃ (kq : Nat) (x13_5 : Bool), v13 = .bool x13_5 ∧ Zs0 (spec_l01Stmt.j0 kq l1 a2 t101 t104 x13_5 s0_0 t105 t106 = some (r1, r2, r3)) ∧ Zs0 (kq ≤ k) ∧ Zs0 (IsS86 w0 wc g s0_0 t105 t106) ∧ Zs0 (KeepBut w wc g none) ∧ Zs0 (Below w0.heap.size w0 wc))
  case first =>
    have H := HC6.out
    clear HC6
    by_cases c9 : t104 = 0
    · rw [if_pos c9] at H
      have c9b0 : (t104 == 0) = true := beq_iff_eq.mpr c9
      have c9b1 : (t104 != 0) = false := bne_eq_false_iff_eq.mpr c9
      clear c9
      (first | rw [c9b0] | (simp only [i64_w, i32_w]; rw [c9b0]) | skip)
      have H' := Zs0.mk H
      clear H
      go_wp2
      go_meet
      case rel => exact ⟨_, ((t104 == 0)), (by first | rfl | (simp; done) | (simp [*]; done)), H', ⟨by first | omega | exact Nat.le_refl _⟩, ⟨by repeat (first | (with_reducible first | exact HI0.out | apply IsS86.alloc | apply IsS86.drewN | apply IsS86.drew | apply IsS86.set_1 | apply IsS86.set_2) | exact HI0.out)⟩, ⟨by repeat (first | (with_reducible first | exact HK.out | apply KeepBut.set_ | apply keep_drewN | apply keep_drew | apply keep_alloc) | exact HK.out)⟩, ⟨by repeat (first | (with_reducible first | exact HB.out | apply blA | apply pbN | apply bl1 | refine blS ?_ (IsS86.ge HI0.out)) | exact HB.out)⟩⟩
    · rw [if_neg c9] at H
      have c9b0 : (t104 == 0) = false := beq_eq_false_iff_ne.mpr c9
      have c9b1 : (t104 != 0) = true := bne_iff_ne.mpr c9
      (first | rw [c9b0] | (simp only [i64_w, i32_w]; rw [c9b0]) | skip)
      by_cases c10 : t104 = 1
      · rw [if_pos c10] at H
        have c10b0 : (t104 == 1) = true := beq_iff_eq.mpr c10
        have c10b1 : (t104 != 1) = false := bne_eq_false_iff_eq.mpr c10
        clear c10
        have H' := Zs0.mk H
        clear H
        go_wp2
        go_meet
        case rel => exact ⟨_, ((t104 == 1)), (by first | rfl | (simp; done) | (simp [*]; done)), H', ⟨by first | omega | exact Nat.le_refl _⟩, ⟨by repeat (first | (with_reducible first | exact HI0.out | apply IsS86.alloc | apply IsS86.drewN | apply IsS86.drew | apply IsS86.set_1 | apply IsS86.set_2) | exact HI0.out)⟩, ⟨by repeat (first | (with_reducible first | exact HK.out | apply KeepBut.set_ | apply keep_drewN | apply keep_drew | apply keep_alloc) | exact HK.out)⟩, ⟨by repeat (first | (with_reducible first | exact HB.out | apply blA | apply pbN | apply bl1 | refine blS ?_ (IsS86.ge HI0.out)) | exact HB.out)⟩⟩
      · rw [if_neg c10] at H
        have c10b0 : (t104 == 1) = false := beq_eq_false_iff_ne.mpr c10
        have c10b1 : (t104 != 1) = true := bne_iff_ne.mpr c10
        have H' := Zs0.mk H
        clear H
        go_wp2
        go_meet
        case rel => exact ⟨_, ((t104 == 2)), (by first | rfl | (simp; done) | (simp [*]; done)), H', ⟨by first | omega | exact Nat.le_refl _⟩, ⟨by repeat (first | (with_reducible first | exact HI0.out | apply IsS86.alloc | apply IsS86.drewN | apply IsS86.drew | apply IsS86.set_1 | apply IsS86.set_2) | exact HI0.out)⟩, ⟨by repeat (first | (with_reducible first | exact HK.out | apply KeepBut.set_ | apply keep_drewN | apply keep_drew | apply keep_alloc) | exact HK.out)⟩, ⟨by repeat (first | (with_reducible first | exact HB.out | apply blA | apply pbN | apply bl1 | refine blS ?_ (IsS86.ge HI0.out)) | exact HB.out)⟩⟩
  case rest =>
    clear HC6
    try clear c1
    try clear p2
    try clear c6
    try clear c7
    try clear c9
    try clear c9b0
    try clear c9b1
    try clear c10
    try clear c10b0
    try clear c10b1
    obtain ⟨kq, x13_5, rfl, HA, HJ5, HI0, HK, HB⟩ := hcut
    cases kq with
    | zero => exact absurd HA.out (by simp [spec_l01Stmt.j0])
    | succ kj5 =>
      have H := HA.out
      clear HA
      simp only [spec_l01Stmt.j0] at H
      by_cases c11 : x13_5 = true
      · subst c11
        have H1 : ((spec_l01Pick.f s0_0 t105 t106 (([(⟨#[97]⟩ : ByteArray), (⟨#[98]⟩ : ByteArray), (⟨#[112]⟩ : ByteArray), (⟨#[97]⟩ : ByteArray)] : List ByteArray))).bind fun bt110 => (if bt110.1.size + 1 ≤ 9223372036854775807 then ((spec_l01Pick.f s0_0 bt110.2.1 bt110.2.2 (([(⟨#[48]⟩ : ByteArray), (⟨#[49]⟩ : ByteArray), (⟨#[120]⟩ : ByteArray), (⟨#[120, 32, 43, 32, 49]⟩ : ByteArray), (⟨#[121, 32, 38, 32, 51]⟩ : ByteArray), (⟨#[50]⟩ : ByteArray)] : List ByteArray))).bind fun bt116 => (if (bt110.1 ++ (⟨#[91]⟩ : ByteArray)).size + bt116.1.size ≤ 9223372036854775807 then (if ((bt110.1 ++ (⟨#[91]⟩ : ByteArray)) ++ bt116.1).size + 4 ≤ 9223372036854775807 then (if (((bt110.1 ++ (⟨#[91]⟩ : ByteArray)) ++ bt116.1) ++ (⟨#[93, 32, 61, 32]⟩ : ByteArray)).size + t101.size ≤ 9223372036854775807 then (if ((((bt110.1 ++ (⟨#[91]⟩ : ByteArray)) ++ bt116.1) ++ (⟨#[93, 32, 61, 32]⟩ : ByteArray)) ++ t101).size + 2 ≤ 9223372036854775807 then (some (((((bt110.1 ++ (⟨#[91]⟩ : ByteArray)) ++ bt116.1) ++ (⟨#[93, 32, 61, 32]⟩ : ByteArray)) ++ t101) ++ (⟨#[59, 10]⟩ : ByteArray), bt116.2.1, bt116.2.2)) else (none)) else (none)) else (none)) else (none))) else (none))) = some (r1, r2, r3) := by rw [if_pos rfl] at H; exact H
        clear H
        have H := H1
        clear H1
        obtain ⟨y107, hy107⟩ : ∃ y_ : List ByteArray, y_ = (([(⟨#[97]⟩ : ByteArray), (⟨#[98]⟩ : ByteArray), (⟨#[112]⟩ : ByteArray), (⟨#[97]⟩ : ByteArray)] : List ByteArray)) := ⟨_, rfl⟩
        replace H : ((spec_l01Pick.f s0_0 t105 t106 y107).bind fun bt110 => (if bt110.1.size + 1 ≤ 9223372036854775807 then ((spec_l01Pick.f s0_0 bt110.2.1 bt110.2.2 (([(⟨#[48]⟩ : ByteArray), (⟨#[49]⟩ : ByteArray), (⟨#[120]⟩ : ByteArray), (⟨#[120, 32, 43, 32, 49]⟩ : ByteArray), (⟨#[121, 32, 38, 32, 51]⟩ : ByteArray), (⟨#[50]⟩ : ByteArray)] : List ByteArray))).bind fun bt116 => (if (bt110.1 ++ (⟨#[91]⟩ : ByteArray)).size + bt116.1.size ≤ 9223372036854775807 then (if ((bt110.1 ++ (⟨#[91]⟩ : ByteArray)) ++ bt116.1).size + 4 ≤ 9223372036854775807 then (if (((bt110.1 ++ (⟨#[91]⟩ : ByteArray)) ++ bt116.1) ++ (⟨#[93, 32, 61, 32]⟩ : ByteArray)).size + t101.size ≤ 9223372036854775807 then (if ((((bt110.1 ++ (⟨#[91]⟩ : ByteArray)) ++ bt116.1) ++ (⟨#[93, 32, 61, 32]⟩ : ByteArray)) ++ t101).size + 2 ≤ 9223372036854775807 then (some (((((bt110.1 ++ (⟨#[91]⟩ : ByteArray)) ++ bt116.1) ++ (⟨#[93, 32, 61, 32]⟩ : ByteArray)) ++ t101) ++ (⟨#[59, 10]⟩ : ByteArray), bt116.2.1, bt116.2.2)) else (none)) else (none)) else (none)) else (none))) else (none))) = some (r1, r2, r3) := by first | (rw [hy107]; with_reducible exact H) | (have H2_ := (Option.bind_some _ _).symm.trans H; rw [hy107]; with_reducible exact H2_) | (have H2_ := (Option.bind_some _ _).symm.trans H; with_reducible exact H2_) | with_reducible exact H | (rw [hy107]; exact H) | exact H
        have Ny107 := Zs0.mk hy107
        clear hy107
        replace H := Option.bind_eq_some_iff.mp H
        obtain ⟨⟨t110, t111, t112⟩, A120, H⟩ := H
        replace H : (if t110.size + 1 ≤ 9223372036854775807 then ((spec_l01Pick.f s0_0 t111 t112 (([(⟨#[48]⟩ : ByteArray), (⟨#[49]⟩ : ByteArray), (⟨#[120]⟩ : ByteArray), (⟨#[120, 32, 43, 32, 49]⟩ : ByteArray), (⟨#[121, 32, 38, 32, 51]⟩ : ByteArray), (⟨#[50]⟩ : ByteArray)] : List ByteArray))).bind fun bt116 => (if (t110 ++ (⟨#[91]⟩ : ByteArray)).size + bt116.1.size ≤ 9223372036854775807 then (if ((t110 ++ (⟨#[91]⟩ : ByteArray)) ++ bt116.1).size + 4 ≤ 9223372036854775807 then (if (((t110 ++ (⟨#[91]⟩ : ByteArray)) ++ bt116.1) ++ (⟨#[93, 32, 61, 32]⟩ : ByteArray)).size + t101.size ≤ 9223372036854775807 then (if ((((t110 ++ (⟨#[91]⟩ : ByteArray)) ++ bt116.1) ++ (⟨#[93, 32, 61, 32]⟩ : ByteArray)) ++ t101).size + 2 ≤ 9223372036854775807 then (some (((((t110 ++ (⟨#[91]⟩ : ByteArray)) ++ bt116.1) ++ (⟨#[93, 32, 61, 32]⟩ : ByteArray)) ++ t101) ++ (⟨#[59, 10]⟩ : ByteArray), bt116.2.1, bt116.2.2)) else (none)) else (none)) else (none)) else (none))) else (none)) = some (r1, r2, r3) := H
        have A12 := Zs0.mk A120
        clear A120
        have c13 := ipos H
        rw [if_pos c13] at H
        have c13b0 := eq_true c13
        have c13b1 := decide_eq_true c13
        try have c13b2 := eq_false (Nat.not_lt.2 c13)
        obtain ⟨y113, hy113⟩ : ∃ y_ : List ByteArray, y_ = (([(⟨#[48]⟩ : ByteArray), (⟨#[49]⟩ : ByteArray), (⟨#[120]⟩ : ByteArray), (⟨#[120, 32, 43, 32, 49]⟩ : ByteArray), (⟨#[121, 32, 38, 32, 51]⟩ : ByteArray), (⟨#[50]⟩ : ByteArray)] : List ByteArray)) := ⟨_, rfl⟩
        replace H : ((spec_l01Pick.f s0_0 t111 t112 y113).bind fun bt116 => (if (t110 ++ (⟨#[91]⟩ : ByteArray)).size + bt116.1.size ≤ 9223372036854775807 then (if ((t110 ++ (⟨#[91]⟩ : ByteArray)) ++ bt116.1).size + 4 ≤ 9223372036854775807 then (if (((t110 ++ (⟨#[91]⟩ : ByteArray)) ++ bt116.1) ++ (⟨#[93, 32, 61, 32]⟩ : ByteArray)).size + t101.size ≤ 9223372036854775807 then (if ((((t110 ++ (⟨#[91]⟩ : ByteArray)) ++ bt116.1) ++ (⟨#[93, 32, 61, 32]⟩ : ByteArray)) ++ t101).size + 2 ≤ 9223372036854775807 then (some (((((t110 ++ (⟨#[91]⟩ : ByteArray)) ++ bt116.1) ++ (⟨#[93, 32, 61, 32]⟩ : ByteArray)) ++ t101) ++ (⟨#[59, 10]⟩ : ByteArray), bt116.2.1, bt116.2.2)) else (none)) else (none)) else (none)) else (none))) = some (r1, r2, r3) := by first | (rw [hy113]; with_reducible exact H) | (have H2_ := (Option.bind_some _ _).symm.trans H; rw [hy113]; with_reducible exact H2_) | (have H2_ := (Option.bind_some _ _).symm.trans H; with_reducible exact H2_) | with_reducible exact H | (rw [hy113]; exact H) | exact H
        have Ny113 := Zs0.mk hy113
        clear hy113
        replace H := Option.bind_eq_some_iff.mp H
        obtain ⟨⟨t116, t117, t118⟩, A140, H⟩ := H
        replace H : (if (t110 ++ (⟨#[91]⟩ : ByteArray)).size + t116.size ≤ 9223372036854775807 then (if ((t110 ++ (⟨#[91]⟩ : ByteArray)) ++ t116).size + 4 ≤ 9223372036854775807 then (if (((t110 ++ (⟨#[91]⟩ : ByteArray)) ++ t116) ++ (⟨#[93, 32, 61, 32]⟩ : ByteArray)).size + t101.size ≤ 9223372036854775807 then (if ((((t110 ++ (⟨#[91]⟩ : ByteArray)) ++ t116) ++ (⟨#[93, 32, 61, 32]⟩ : ByteArray)) ++ t101).size + 2 ≤ 9223372036854775807 then (some (((((t110 ++ (⟨#[91]⟩ : ByteArray)) ++ t116) ++ (⟨#[93, 32, 61, 32]⟩ : ByteArray)) ++ t101) ++ (⟨#[59, 10]⟩ : ByteArray), t117, t118)) else (none)) else (none)) else (none)) else (none)) = some (r1, r2, r3) := H
        have A14 := Zs0.mk A140
        clear A140
        have c15 := ipos H
        rw [if_pos c15] at H
        have c15b0 := eq_true c15
        have c15b1 := decide_eq_true c15
        try have c15b2 := eq_false (Nat.not_lt.2 c15)
        have c15n0 : t110.size + 1 + t116.size ≤ 9223372036854775807 := by have h_ := c15; simp only [ByteArray.size_append] at h_; exact h_
        have c15n1 := eq_true c15n0
        have c15n2 := eq_false (Nat.not_lt.2 c15n0)
        have c16 := ipos H
        rw [if_pos c16] at H
        have c16b0 := eq_true c16
        have c16b1 := decide_eq_true c16
        try have c16b2 := eq_false (Nat.not_lt.2 c16)
        have c16n0 : t110.size + 1 + t116.size + 4 ≤ 9223372036854775807 := by have h_ := c16; simp only [ByteArray.size_append] at h_; exact h_
        have c16n1 := eq_true c16n0
        have c16n2 := eq_false (Nat.not_lt.2 c16n0)
        have c17 := ipos H
        rw [if_pos c17] at H
        have c17b0 := eq_true c17
        have c17b1 := decide_eq_true c17
        try have c17b2 := eq_false (Nat.not_lt.2 c17)
        have c17n0 : t110.size + 1 + t116.size + 4 + t101.size ≤ 9223372036854775807 := by have h_ := c17; simp only [ByteArray.size_append] at h_; exact h_
        have c17n1 := eq_true c17n0
        have c17n2 := eq_false (Nat.not_lt.2 c17n0)
        have c18 := ipos H
        rw [if_pos c18] at H
        have c18b0 := eq_true c18
        have c18b1 := decide_eq_true c18
        try have c18b2 := eq_false (Nat.not_lt.2 c18)
        have c18n0 : t110.size + 1 + t116.size + 4 + t101.size + 2 ≤ 9223372036854775807 := by have h_ := c18; simp only [ByteArray.size_append] at h_; exact h_
        have c18n1 := eq_true c18n0
        have c18n2 := eq_false (Nat.not_lt.2 c18n0)
        simp only [Option.some.injEq, Prod.mk.injEq] at H
        obtain ⟨rfl, rfl, rfl⟩ := H
        go_wp2_with (first | ((with_reducible refine gtD (N := 18) rfl ?_); refine Kd.R_lit Kd.string _ 9 ?hg (N := 18) ?hd (xs := ([(⟨#[97]⟩ : ByteArray), (⟨#[98]⟩ : ByteArray), (⟨#[112]⟩ : ByteArray), (⟨#[97]⟩ : ByteArray)] : List ByteArray)) (inner := [.string (⟨#[97]⟩ : ByteArray), .string (⟨#[98]⟩ : ByteArray), .string (⟨#[112]⟩ : ByteArray), .string (⟨#[97]⟩ : ByteArray)]) (ok := fun _ => True) (okp := fun _ => True) ?hr ?hp (fun _ hk => hk) trivial (Below.refl _ _) (Nat.le_refl _) (by simp) ?_; (case hd => rfl); (case hg => rfl); (case hr => first | (go_simp; done) | (go_simp; rfl)); (case hp => exact (Reps.one (show Kd.M Kd.string _ _ _ (⟨#[97]⟩ : ByteArray) [.string (⟨#[97]⟩ : ByteArray)] from rfl) (Reps.one (show Kd.M Kd.string _ _ _ (⟨#[98]⟩ : ByteArray) [.string (⟨#[98]⟩ : ByteArray)] from rfl) (Reps.one (show Kd.M Kd.string _ _ _ (⟨#[112]⟩ : ByteArray) [.string (⟨#[112]⟩ : ByteArray)] from rfl) (Reps.one (show Kd.M Kd.string _ _ _ (⟨#[97]⟩ : ByteArray) [.string (⟨#[97]⟩ : ByteArray)] from rfl) (Reps.none _ _)))))); intro v108 w19 ho20 hb hg_ hnew_; clear hg_ hnew_; (first | rw [← Ny107.out] at ho20 | (simp only [Int.reduceToNat] at ho20; rw [← Ny107.out] at ho20)); have n0_ := Zs0.mk (Kd.R_lower ho20 (keep_size (w := w) (g := g) (row := none) (by repeat (first | (with_reducible first | exact HK.out | apply KeepBut.set_ | apply keep_drewN | apply keep_drew | apply keep_alloc) | exact HK.out)))); have n1_ := Zs0.mk (IsS86.below (by repeat (first | (with_reducible first | exact HI0.out | apply IsS86.alloc | apply IsS86.drewN | apply IsS86.drew | apply IsS86.set_1 | apply IsS86.set_2) | exact HI0.out)) hb); have n2_ := Zs0.mk (KeepBut.trans (by repeat (first | (with_reducible first | exact HK.out | apply KeepBut.set_ | apply keep_drewN | apply keep_drew | apply keep_alloc) | exact HK.out)) (KeepBut.of_below hb g none) (.inl rfl)); have n3_ := Zs0.mk (blT (by repeat (first | (with_reducible first | exact HB.out | apply blA | apply pbN | apply bl1 | refine blS ?_ (IsS86.ge HI0.out)) | exact HB.out)) hb); clear HI0; clear HK; clear HB; have HO109 := n0_; have HI0 := n1_; have HK := n2_; have HB := n3_; clear n0_ n1_ n2_ n3_; clear hb ho20; obtain ⟨Ao21, co21, eo21⟩ := Kd.R_slice HO109.out; subst eo21) | ((with_reducible refine gtC (f := 62) rfl ?_); refine goesL_ (some 19) rfl rfl Tryd.func62 (by kernel_rfl) rfl #[.pointer (some ⟨g, 0, none⟩), .slice Ao21 y107.length co21] rfl (by (try simp only [List.map_toArray, List.map_cons, List.map_nil]); first | done | rfl | (simp only [List.length_drop, List.length_take]; rfl)) ?_; (with_reducible refine (spec_l01Pick.calls g s0_0 t105 t106 _ _ y107 t110 t111 t112 w0 _ ?side1 ?side2 ?side3 ?side4 ?side5 A12.out).mono ?_); (case side1 => repeat (first | (with_reducible first | exact HI0.out | apply IsS86.alloc | apply IsS86.drewN | apply IsS86.drew | apply IsS86.set_1 | apply IsS86.set_2) | exact HI0.out)); (case side2 => repeat (first | (with_reducible first | exact HB.out | apply blA | apply pbN | apply bl1 | refine blS ?_ (IsS86.ge HI0.out)) | exact HB.out)); (case side3 => repeat (first | exact (Kd.R_reads' HO109.out).2.2 | (with_reducible refine Kd.C_alloc ?_ _) | (with_reducible refine Kd.C_drewN ?_ _) | (with_reducible refine Kd.C_drew ?_))); (case side4 => exact (Kd.R_reads' HO109.out).2.1); (case side5 => exact far_slice (IsS86.own_ne HI0.out HO109.out (by decide))); rintro e w22 ⟨rfl, hi, hb, hk⟩; refine ⟨_, rfl, ?_⟩; have n0_ := Zs0.mk (Kd.R_mono (Kd.R_keep (IsS86.apart (show IsS86 w0 _ g s0_0 t105 t106 from by repeat (first | (with_reducible first | exact HI0.out | apply IsS86.alloc | apply IsS86.drewN | apply IsS86.drew | apply IsS86.set_1 | apply IsS86.set_2) | exact HI0.out)) (by (with_reducible repeat (first | apply Kd.R_alloc | apply Kd.R_drewN | apply Kd.R_drew)); exact HO109.out) (by decide)) hk (fun _ h => h.2)) (fun _ h => h.1)); have n1_ := Zs0.mk (KeepBut.trans (by repeat (first | (with_reducible first | exact HK.out | apply KeepBut.set_ | apply keep_drewN | apply keep_drew | apply keep_alloc) | exact HK.out)) hk (.inl rfl)); have n2_ := Zs0.mk (hb); have n3_ := Zs0.mk (hi); clear HO109; clear HK; clear HB; clear HI0; have HO109 := n0_; have HK := n1_; have HB := n2_; have HI0 := n3_; clear n0_ n1_ n2_ n3_; (try clear hb); (try clear hb2); (try clear hk); (try clear hi)) | ((with_reducible refine gtD (N := 22) rfl ?_); refine Kd.R_lit Kd.string _ 9 ?hg (N := 22) ?hd (xs := ([(⟨#[48]⟩ : ByteArray), (⟨#[49]⟩ : ByteArray), (⟨#[120]⟩ : ByteArray), (⟨#[120, 32, 43, 32, 49]⟩ : ByteArray), (⟨#[121, 32, 38, 32, 51]⟩ : ByteArray), (⟨#[50]⟩ : ByteArray)] : List ByteArray)) (inner := [.string (⟨#[48]⟩ : ByteArray), .string (⟨#[49]⟩ : ByteArray), .string (⟨#[120]⟩ : ByteArray), .string (⟨#[120, 32, 43, 32, 49]⟩ : ByteArray), .string (⟨#[121, 32, 38, 32, 51]⟩ : ByteArray), .string (⟨#[50]⟩ : ByteArray)]) (ok := fun _ => True) (okp := fun _ => True) ?hr ?hp (fun _ hk => hk) trivial (Below.refl _ _) (Nat.le_refl _) (by simp) ?_; (case hd => rfl); (case hg => rfl); (case hr => first | (go_simp; done) | (go_simp; rfl)); (case hp => exact (Reps.one (show Kd.M Kd.string _ _ _ (⟨#[48]⟩ : ByteArray) [.string (⟨#[48]⟩ : ByteArray)] from rfl) (Reps.one (show Kd.M Kd.string _ _ _ (⟨#[49]⟩ : ByteArray) [.string (⟨#[49]⟩ : ByteArray)] from rfl) (Reps.one (show Kd.M Kd.string _ _ _ (⟨#[120]⟩ : ByteArray) [.string (⟨#[120]⟩ : ByteArray)] from rfl) (Reps.one (show Kd.M Kd.string _ _ _ (⟨#[120, 32, 43, 32, 49]⟩ : ByteArray) [.string (⟨#[120, 32, 43, 32, 49]⟩ : ByteArray)] from rfl) (Reps.one (show Kd.M Kd.string _ _ _ (⟨#[121, 32, 38, 32, 51]⟩ : ByteArray) [.string (⟨#[121, 32, 38, 32, 51]⟩ : ByteArray)] from rfl) (Reps.one (show Kd.M Kd.string _ _ _ (⟨#[50]⟩ : ByteArray) [.string (⟨#[50]⟩ : ByteArray)] from rfl) (Reps.none _ _)))))))); intro v114 w23 ho24 hb hg_ hnew_; clear hg_ hnew_; (first | rw [← Ny113.out] at ho24 | (simp only [Int.reduceToNat] at ho24; rw [← Ny113.out] at ho24)); have n0_ := Zs0.mk (Kd.R_elder' (by (with_reducible repeat (first | apply Kd.R_alloc | apply Kd.R_drewN | apply Kd.R_drew)); exact HO109.out) (Kd.R_base ho24) hb); have n1_ := Zs0.mk (Kd.R_lower (Kd.R_new' ho24 (Kd.R_lt (by (with_reducible repeat (first | apply Kd.R_alloc | apply Kd.R_drewN | apply Kd.R_drew)); exact HO109.out))) (keep_size (w := w) (g := g) (row := none) (by repeat (first | (with_reducible first | exact HK.out | apply KeepBut.set_ | apply keep_drewN | apply keep_drew | apply keep_alloc) | exact HK.out)))); have n2_ := Zs0.mk (IsS86.below (by repeat (first | (with_reducible first | exact HI0.out | apply IsS86.alloc | apply IsS86.drewN | apply IsS86.drew | apply IsS86.set_1 | apply IsS86.set_2) | exact HI0.out)) hb); have n3_ := Zs0.mk (KeepBut.trans (by repeat (first | (with_reducible first | exact HK.out | apply KeepBut.set_ | apply keep_drewN | apply keep_drew | apply keep_alloc) | exact HK.out)) (KeepBut.of_below hb g none) (.inl rfl)); have n4_ := Zs0.mk (blT (by repeat (first | (with_reducible first | exact HB.out | apply blA | apply pbN | apply bl1 | refine blS ?_ (IsS86.ge HI0.out)) | exact HB.out)) hb); clear HO109; clear HI0; clear HK; clear HB; have HO109 := n0_; have HO115 := n1_; have HI0 := n2_; have HK := n3_; have HB := n4_; clear n0_ n1_ n2_ n3_ n4_; clear hb ho24; obtain ⟨Ao25, co25, eo25⟩ := Kd.R_slice HO115.out; subst eo25) | ((with_reducible refine gtC (f := 62) rfl ?_); refine goesL_ (some 23) rfl rfl Tryd.func62 (by kernel_rfl) rfl #[.pointer (some ⟨g, 0, none⟩), .slice Ao25 y113.length co25] rfl (by (try simp only [List.map_toArray, List.map_cons, List.map_nil]); first | done | rfl | (simp only [List.length_drop, List.length_take]; rfl)) ?_; (with_reducible refine (spec_l01Pick.calls g s0_0 t111 t112 _ _ y113 t116 t117 t118 w0 _ ?side1 ?side2 ?side3 ?side4 ?side5 A14.out).mono ?_); (case side1 => repeat (first | (with_reducible first | exact HI0.out | apply IsS86.alloc | apply IsS86.drewN | apply IsS86.drew | apply IsS86.set_1 | apply IsS86.set_2) | exact HI0.out)); (case side2 => repeat (first | (with_reducible first | exact HB.out | apply blA | apply pbN | apply bl1 | refine blS ?_ (IsS86.ge HI0.out)) | exact HB.out)); (case side3 => repeat (first | exact (Kd.R_reads' HO115.out).2.2 | (with_reducible refine Kd.C_alloc ?_ _) | (with_reducible refine Kd.C_drewN ?_ _) | (with_reducible refine Kd.C_drew ?_))); (case side4 => exact (Kd.R_reads' HO115.out).2.1); (case side5 => exact far_slice (IsS86.own_ne HI0.out HO115.out (by decide))); rintro e w26 ⟨rfl, hi, hb, hk⟩; refine ⟨_, rfl, ?_⟩; have n0_ := Zs0.mk (Kd.R_mono (Kd.R_keep (IsS86.apart (show IsS86 w0 _ g s0_0 t111 t112 from by repeat (first | (with_reducible first | exact HI0.out | apply IsS86.alloc | apply IsS86.drewN | apply IsS86.drew | apply IsS86.set_1 | apply IsS86.set_2) | exact HI0.out)) (by (with_reducible repeat (first | apply Kd.R_alloc | apply Kd.R_drewN | apply Kd.R_drew)); exact HO109.out) (by decide)) hk (fun _ h => h.2)) (fun _ h => h.1)); have n1_ := Zs0.mk (Kd.R_mono (Kd.R_keep (IsS86.apart (show IsS86 w0 _ g s0_0 t111 t112 from by repeat (first | (with_reducible first | exact HI0.out | apply IsS86.alloc | apply IsS86.drewN | apply IsS86.drew | apply IsS86.set_1 | apply IsS86.set_2) | exact HI0.out)) (by (with_reducible repeat (first | apply Kd.R_alloc | apply Kd.R_drewN | apply Kd.R_drew)); exact HO115.out) (by decide)) hk (fun _ h => h.2)) (fun _ h => h.1)); have n2_ := Zs0.mk (KeepBut.trans (by repeat (first | (with_reducible first | exact HK.out | apply KeepBut.set_ | apply keep_drewN | apply keep_drew | apply keep_alloc) | exact HK.out)) hk (.inl rfl)); have n3_ := Zs0.mk (hb); have n4_ := Zs0.mk (hi); clear HO109; clear HO115; clear HK; clear HB; clear HI0; have HO109 := n0_; have HO115 := n1_; have HK := n2_; have HB := n3_; have HI0 := n4_; clear n0_ n1_ n2_ n3_ n4_; (try clear hb); (try clear hb2); (try clear hk); (try clear hi)))
        go_ret
        exact ⟨by first | rfl | (simp [eWn, eWs] <;> rfl) | (simp [*, eWn, eWs] <;> rfl), by repeat (first | (with_reducible first | exact HI0.out | apply IsS86.alloc | apply IsS86.drewN | apply IsS86.drew | apply IsS86.set_1 | apply IsS86.set_2) | exact HI0.out), by repeat (first | (with_reducible first | exact HB.out | apply blA | apply pbN | apply bl1 | refine blS ?_ (IsS86.ge HI0.out)) | exact HB.out), by repeat (first | (with_reducible first | exact HK.out | apply KeepBut.set_ | apply keep_drewN | apply keep_drew | apply keep_alloc) | exact HK.out)⟩
      · replace c11 := Bool.eq_false_iff.mpr c11
        subst c11
        have H1 : (if t104 = 3 then (spec_l01Stmt.j1 kj5 l1 a2 t101 t104 (t104 == 3) s0_0 t105 t106) else (spec_l01Stmt.j1 kj5 l1 a2 t101 t104 (t104 == 4) s0_0 t105 t106)) = some (r1, r2, r3) := by rw [if_neg (show ¬ (false = true) by decide)] at H; exact H
        clear H
        have H := H1
        clear H1
        have HC27 := Zs0.mk H
        clear H
        go_upto_if 29 with (fail)
        go_cut [29] (fun v29 wc => ∃ (kq : Nat) (x29_26 : Bool), v29 = .bool x29_26 ∧ Zs0 (spec_l01Stmt.j1 kq l1 a2 t101 t104 x29_26 s0_0 t105 t106 = some (r1, r2, r3)) ∧ Zs0 (kq ≤ kj5) ∧ Zs0 (IsS86 w0 wc g s0_0 t105 t106) ∧ Zs0 (KeepBut w wc g none) ∧ Zs0 (Below w0.heap.size w0 wc))
        case first =>
          have H := HC27.out
          clear HC27
          by_cases c28 : t104 = 3
          · rw [if_pos c28] at H
            have c28b0 : (t104 == 3) = true := beq_iff_eq.mpr c28
            have c28b1 : (t104 != 3) = false := bne_eq_false_iff_eq.mpr c28
            clear c28
            (first | rw [c28b0] | (simp only [i64_w, i32_w]; rw [c28b0]) | skip)
            have H' := Zs0.mk H
            clear H
            go_wp2
            go_meet
            case rel => exact ⟨_, ((t104 == 3)), (by first | rfl | (simp; done) | (simp [*]; done)), H', ⟨by have := HJ5.out; first | omega | exact Nat.le_refl _⟩, ⟨by repeat (first | (with_reducible first | exact HI0.out | apply IsS86.alloc | apply IsS86.drewN | apply IsS86.drew | apply IsS86.set_1 | apply IsS86.set_2) | exact HI0.out)⟩, ⟨by repeat (first | (with_reducible first | exact HK.out | apply KeepBut.set_ | apply keep_drewN | apply keep_drew | apply keep_alloc) | exact HK.out)⟩, ⟨by repeat (first | (with_reducible first | exact HB.out | apply blA | apply pbN | apply bl1 | refine blS ?_ (IsS86.ge HI0.out)) | exact HB.out)⟩⟩
          · rw [if_neg c28] at H
            have c28b0 : (t104 == 3) = false := beq_eq_false_iff_ne.mpr c28
            have c28b1 : (t104 != 3) = true := bne_iff_ne.mpr c28
            (first | rw [c28b0] | (simp only [i64_w, i32_w]; rw [c28b0]) | skip)
            have H' := Zs0.mk H
            clear H
            go_wp2
            go_meet
            case rel => exact ⟨_, ((t104 == 4)), (by first | rfl | (simp; done) | (simp [*]; done)), H', ⟨by have := HJ5.out; first | omega | exact Nat.le_refl _⟩, ⟨by repeat (first | (with_reducible first | exact HI0.out | apply IsS86.alloc | apply IsS86.drewN | apply IsS86.drew | apply IsS86.set_1 | apply IsS86.set_2) | exact HI0.out)⟩, ⟨by repeat (first | (with_reducible first | exact HK.out | apply KeepBut.set_ | apply keep_drewN | apply keep_drew | apply keep_alloc) | exact HK.out)⟩, ⟨by repeat (first | (with_reducible first | exact HB.out | apply blA | apply pbN | apply bl1 | refine blS ?_ (IsS86.ge HI0.out)) | exact HB.out)⟩⟩
        case rest =>
          clear HC27
          try clear c1
          try clear c2
          try clear p2
          try clear c6
          try clear c7
          try clear c9
          try clear c9b0
          try clear c9b1
          try clear c10
          try clear c10b0
          try clear c10b1
          try clear c11
          try clear c13
          try clear c13b0
          try clear c13b1
          try clear c13b2
          try clear c15
          try clear c15b0
          try clear c15b1
          try clear c15b2
          try clear c16
          try clear c16b0
          try clear c16b1
          try clear c16b2
          try clear c17
          try clear c17b0
          try clear c17b1
          try clear c17b2
          try clear c18
          try clear c18b0
          try clear c18b1
          try clear c18b2
          try clear c28
          try clear c28b0
          try clear c28b1
          try clear p2
          obtain ⟨kq, x29_26, rfl, HA, HJ26, HI0, HK, HB⟩ := hcut
          cases kq with
          | zero => exact absurd HA.out (by simp [spec_l01Stmt.j1])
          | succ kj26 =>
            have H := HA.out
            clear HA
            simp only [spec_l01Stmt.j1] at H
            by_cases c29 : x29_26 = true
            · subst c29
              have H1 : ((spec_l01Pick.f s0_0 t105 t106 (([(⟨#[120]⟩ : ByteArray), (⟨#[121]⟩ : ByteArray), (⟨#[122]⟩ : ByteArray)] : List ByteArray))).bind fun bt122 => (if bt122.1.size + 3 ≤ 9223372036854775807 then ((spec_l01Pick.f s0_0 bt122.2.1 bt122.2.2 (([(⟨#[97]⟩ : ByteArray), (⟨#[98]⟩ : ByteArray), (⟨#[112]⟩ : ByteArray)] : List ByteArray))).bind fun bt128 => (if (bt122.1 ++ (⟨#[32, 61, 32]⟩ : ByteArray)).size + bt128.1.size ≤ 9223372036854775807 then (if ((bt122.1 ++ (⟨#[32, 61, 32]⟩ : ByteArray)) ++ bt128.1).size + 1 ≤ 9223372036854775807 then ((spec_l01Pick.f s0_0 bt128.2.1 bt128.2.2 (([(⟨#[48]⟩ : ByteArray), (⟨#[49]⟩ : ByteArray), (⟨#[120, 32, 38, 32, 51]⟩ : ByteArray), (⟨#[120, 32, 43, 32, 49]⟩ : ByteArray), (⟨#[50]⟩ : ByteArray)] : List ByteArray))).bind fun bt134 => (if (((bt122.1 ++ (⟨#[32, 61, 32]⟩ : ByteArray)) ++ bt128.1) ++ (⟨#[91]⟩ : ByteArray)).size + bt134.1.size ≤ 9223372036854775807 then (if ((((bt122.1 ++ (⟨#[32, 61, 32]⟩ : ByteArray)) ++ bt128.1) ++ (⟨#[91]⟩ : ByteArray)) ++ bt134.1).size + 3 ≤ 9223372036854775807 then (some (((((bt122.1 ++ (⟨#[32, 61, 32]⟩ : ByteArray)) ++ bt128.1) ++ (⟨#[91]⟩ : ByteArray)) ++ bt134.1) ++ (⟨#[93, 59, 10]⟩ : ByteArray), bt134.2.1, bt134.2.2)) else (none)) else (none))) else (none)) else (none))) else (none))) = some (r1, r2, r3) := by rw [if_pos rfl] at H; exact H
              clear H
              have H := H1
              clear H1
              obtain ⟨y119, hy119⟩ : ∃ y_ : List ByteArray, y_ = (([(⟨#[120]⟩ : ByteArray), (⟨#[121]⟩ : ByteArray), (⟨#[122]⟩ : ByteArray)] : List ByteArray)) := ⟨_, rfl⟩
              replace H : ((spec_l01Pick.f s0_0 t105 t106 y119).bind fun bt122 => (if bt122.1.size + 3 ≤ 9223372036854775807 then ((spec_l01Pick.f s0_0 bt122.2.1 bt122.2.2 (([(⟨#[97]⟩ : ByteArray), (⟨#[98]⟩ : ByteArray), (⟨#[112]⟩ : ByteArray)] : List ByteArray))).bind fun bt128 => (if (bt122.1 ++ (⟨#[32, 61, 32]⟩ : ByteArray)).size + bt128.1.size ≤ 9223372036854775807 then (if ((bt122.1 ++ (⟨#[32, 61, 32]⟩ : ByteArray)) ++ bt128.1).size + 1 ≤ 9223372036854775807 then ((spec_l01Pick.f s0_0 bt128.2.1 bt128.2.2 (([(⟨#[48]⟩ : ByteArray), (⟨#[49]⟩ : ByteArray), (⟨#[120, 32, 38, 32, 51]⟩ : ByteArray), (⟨#[120, 32, 43, 32, 49]⟩ : ByteArray), (⟨#[50]⟩ : ByteArray)] : List ByteArray))).bind fun bt134 => (if (((bt122.1 ++ (⟨#[32, 61, 32]⟩ : ByteArray)) ++ bt128.1) ++ (⟨#[91]⟩ : ByteArray)).size + bt134.1.size ≤ 9223372036854775807 then (if ((((bt122.1 ++ (⟨#[32, 61, 32]⟩ : ByteArray)) ++ bt128.1) ++ (⟨#[91]⟩ : ByteArray)) ++ bt134.1).size + 3 ≤ 9223372036854775807 then (some (((((bt122.1 ++ (⟨#[32, 61, 32]⟩ : ByteArray)) ++ bt128.1) ++ (⟨#[91]⟩ : ByteArray)) ++ bt134.1) ++ (⟨#[93, 59, 10]⟩ : ByteArray), bt134.2.1, bt134.2.2)) else (none)) else (none))) else (none)) else (none))) else (none))) = some (r1, r2, r3) := by first | (rw [hy119]; with_reducible exact H) | (have H2_ := (Option.bind_some _ _).symm.trans H; rw [hy119]; with_reducible exact H2_) | (have H2_ := (Option.bind_some _ _).symm.trans H; with_reducible exact H2_) | with_reducible exact H | (rw [hy119]; exact H) | exact H
              have Ny119 := Zs0.mk hy119
              clear hy119
              replace H := Option.bind_eq_some_iff.mp H
              obtain ⟨⟨t122, t123, t124⟩, A300, H⟩ := H
              replace H : (if t122.size + 3 ≤ 9223372036854775807 then ((spec_l01Pick.f s0_0 t123 t124 (([(⟨#[97]⟩ : ByteArray), (⟨#[98]⟩ : ByteArray), (⟨#[112]⟩ : ByteArray)] : List ByteArray))).bind fun bt128 => (if (t122 ++ (⟨#[32, 61, 32]⟩ : ByteArray)).size + bt128.1.size ≤ 9223372036854775807 then (if ((t122 ++ (⟨#[32, 61, 32]⟩ : ByteArray)) ++ bt128.1).size + 1 ≤ 9223372036854775807 then ((spec_l01Pick.f s0_0 bt128.2.1 bt128.2.2 (([(⟨#[48]⟩ : ByteArray), (⟨#[49]⟩ : ByteArray), (⟨#[120, 32, 38, 32, 51]⟩ : ByteArray), (⟨#[120, 32, 43, 32, 49]⟩ : ByteArray), (⟨#[50]⟩ : ByteArray)] : List ByteArray))).bind fun bt134 => (if (((t122 ++ (⟨#[32, 61, 32]⟩ : ByteArray)) ++ bt128.1) ++ (⟨#[91]⟩ : ByteArray)).size + bt134.1.size ≤ 9223372036854775807 then (if ((((t122 ++ (⟨#[32, 61, 32]⟩ : ByteArray)) ++ bt128.1) ++ (⟨#[91]⟩ : ByteArray)) ++ bt134.1).size + 3 ≤ 9223372036854775807 then (some (((((t122 ++ (⟨#[32, 61, 32]⟩ : ByteArray)) ++ bt128.1) ++ (⟨#[91]⟩ : ByteArray)) ++ bt134.1) ++ (⟨#[93, 59, 10]⟩ : ByteArray), bt134.2.1, bt134.2.2)) else (none)) else (none))) else (none)) else (none))) else (none)) = some (r1, r2, r3) := H
              have A30 := Zs0.mk A300
              clear A300
              have c31 := ipos H
              rw [if_pos c31] at H
              have c31b0 := eq_true c31
              have c31b1 := decide_eq_true c31
              try have c31b2 := eq_false (Nat.not_lt.2 c31)
              obtain ⟨y125, hy125⟩ : ∃ y_ : List ByteArray, y_ = (([(⟨#[97]⟩ : ByteArray), (⟨#[98]⟩ : ByteArray), (⟨#[112]⟩ : ByteArray)] : List ByteArray)) := ⟨_, rfl⟩
              replace H : ((spec_l01Pick.f s0_0 t123 t124 y125).bind fun bt128 => (if (t122 ++ (⟨#[32, 61, 32]⟩ : ByteArray)).size + bt128.1.size ≤ 9223372036854775807 then (if ((t122 ++ (⟨#[32, 61, 32]⟩ : ByteArray)) ++ bt128.1).size + 1 ≤ 9223372036854775807 then ((spec_l01Pick.f s0_0 bt128.2.1 bt128.2.2 (([(⟨#[48]⟩ : ByteArray), (⟨#[49]⟩ : ByteArray), (⟨#[120, 32, 38, 32, 51]⟩ : ByteArray), (⟨#[120, 32, 43, 32, 49]⟩ : ByteArray), (⟨#[50]⟩ : ByteArray)] : List ByteArray))).bind fun bt134 => (if (((t122 ++ (⟨#[32, 61, 32]⟩ : ByteArray)) ++ bt128.1) ++ (⟨#[91]⟩ : ByteArray)).size + bt134.1.size ≤ 9223372036854775807 then (if ((((t122 ++ (⟨#[32, 61, 32]⟩ : ByteArray)) ++ bt128.1) ++ (⟨#[91]⟩ : ByteArray)) ++ bt134.1).size + 3 ≤ 9223372036854775807 then (some (((((t122 ++ (⟨#[32, 61, 32]⟩ : ByteArray)) ++ bt128.1) ++ (⟨#[91]⟩ : ByteArray)) ++ bt134.1) ++ (⟨#[93, 59, 10]⟩ : ByteArray), bt134.2.1, bt134.2.2)) else (none)) else (none))) else (none)) else (none))) = some (r1, r2, r3) := by first | (rw [hy125]; with_reducible exact H) | (have H2_ := (Option.bind_some _ _).symm.trans H; rw [hy125]; with_reducible exact H2_) | (have H2_ := (Option.bind_some _ _).symm.trans H; with_reducible exact H2_) | with_reducible exact H | (rw [hy125]; exact H) | exact H
              have Ny125 := Zs0.mk hy125
              clear hy125
              replace H := Option.bind_eq_some_iff.mp H
              obtain ⟨⟨t128, t129, t130⟩, A320, H⟩ := H
              replace H : (if (t122 ++ (⟨#[32, 61, 32]⟩ : ByteArray)).size + t128.size ≤ 9223372036854775807 then (if ((t122 ++ (⟨#[32, 61, 32]⟩ : ByteArray)) ++ t128).size + 1 ≤ 9223372036854775807 then ((spec_l01Pick.f s0_0 t129 t130 (([(⟨#[48]⟩ : ByteArray), (⟨#[49]⟩ : ByteArray), (⟨#[120, 32, 38, 32, 51]⟩ : ByteArray), (⟨#[120, 32, 43, 32, 49]⟩ : ByteArray), (⟨#[50]⟩ : ByteArray)] : List ByteArray))).bind fun bt134 => (if (((t122 ++ (⟨#[32, 61, 32]⟩ : ByteArray)) ++ t128) ++ (⟨#[91]⟩ : ByteArray)).size + bt134.1.size ≤ 9223372036854775807 then (if ((((t122 ++ (⟨#[32, 61, 32]⟩ : ByteArray)) ++ t128) ++ (⟨#[91]⟩ : ByteArray)) ++ bt134.1).size + 3 ≤ 9223372036854775807 then (some (((((t122 ++ (⟨#[32, 61, 32]⟩ : ByteArray)) ++ t128) ++ (⟨#[91]⟩ : ByteArray)) ++ bt134.1) ++ (⟨#[93, 59, 10]⟩ : ByteArray), bt134.2.1, bt134.2.2)) else (none)) else (none))) else (none)) else (none)) = some (r1, r2, r3) := H
              have A32 := Zs0.mk A320
              clear A320
              have c33 := ipos H
              rw [if_pos c33] at H
              have c33b0 := eq_true c33
              have c33b1 := decide_eq_true c33
              try have c33b2 := eq_false (Nat.not_lt.2 c33)
              have c33n0 : t122.size + 3 + t128.size ≤ 9223372036854775807 := by have h_ := c33; simp only [ByteArray.size_append] at h_; exact h_
              have c33n1 := eq_true c33n0
              have c33n2 := eq_false (Nat.not_lt.2 c33n0)
              have c34 := ipos H
              rw [if_pos c34] at H
              have c34b0 := eq_true c34
              have c34b1 := decide_eq_true c34
              try have c34b2 := eq_false (Nat.not_lt.2 c34)
              have c34n0 : t122.size + 3 + t128.size + 1 ≤ 9223372036854775807 := by have h_ := c34; simp only [ByteArray.size_append] at h_; exact h_
              have c34n1 := eq_true c34n0
              have c34n2 := eq_false (Nat.not_lt.2 c34n0)
              obtain ⟨y131, hy131⟩ : ∃ y_ : List ByteArray, y_ = (([(⟨#[48]⟩ : ByteArray), (⟨#[49]⟩ : ByteArray), (⟨#[120, 32, 38, 32, 51]⟩ : ByteArray), (⟨#[120, 32, 43, 32, 49]⟩ : ByteArray), (⟨#[50]⟩ : ByteArray)] : List ByteArray)) := ⟨_, rfl⟩
              replace H : ((spec_l01Pick.f s0_0 t129 t130 y131).bind fun bt134 => (if (((t122 ++ (⟨#[32, 61, 32]⟩ : ByteArray)) ++ t128) ++ (⟨#[91]⟩ : ByteArray)).size + bt134.1.size ≤ 9223372036854775807 then (if ((((t122 ++ (⟨#[32, 61, 32]⟩ : ByteArray)) ++ t128) ++ (⟨#[91]⟩ : ByteArray)) ++ bt134.1).size + 3 ≤ 9223372036854775807 then (some (((((t122 ++ (⟨#[32, 61, 32]⟩ : ByteArray)) ++ t128) ++ (⟨#[91]⟩ : ByteArray)) ++ bt134.1) ++ (⟨#[93, 59, 10]⟩ : ByteArray), bt134.2.1, bt134.2.2)) else (none)) else (none))) = some (r1, r2, r3) := by first | (rw [hy131]; with_reducible exact H) | (have H2_ := (Option.bind_some _ _).symm.trans H; rw [hy131]; with_reducible exact H2_) | (have H2_ := (Option.bind_some _ _).symm.trans H; with_reducible exact H2_) | with_reducible exact H | (rw [hy131]; exact H) | exact H
              have Ny131 := Zs0.mk hy131
              clear hy131
              replace H := Option.bind_eq_some_iff.mp H
              obtain ⟨⟨t134, t135, t136⟩, A350, H⟩ := H
              replace H : (if (((t122 ++ (⟨#[32, 61, 32]⟩ : ByteArray)) ++ t128) ++ (⟨#[91]⟩ : ByteArray)).size + t134.size ≤ 9223372036854775807 then (if ((((t122 ++ (⟨#[32, 61, 32]⟩ : ByteArray)) ++ t128) ++ (⟨#[91]⟩ : ByteArray)) ++ t134).size + 3 ≤ 9223372036854775807 then (some (((((t122 ++ (⟨#[32, 61, 32]⟩ : ByteArray)) ++ t128) ++ (⟨#[91]⟩ : ByteArray)) ++ t134) ++ (⟨#[93, 59, 10]⟩ : ByteArray), t135, t136)) else (none)) else (none)) = some (r1, r2, r3) := H
              have A35 := Zs0.mk A350
              clear A350
              have c36 := ipos H
              rw [if_pos c36] at H
              have c36b0 := eq_true c36
              have c36b1 := decide_eq_true c36
              try have c36b2 := eq_false (Nat.not_lt.2 c36)
              have c36n0 : t122.size + 3 + t128.size + 1 + t134.size ≤ 9223372036854775807 := by have h_ := c36; simp only [ByteArray.size_append] at h_; exact h_
              have c36n1 := eq_true c36n0
              have c36n2 := eq_false (Nat.not_lt.2 c36n0)
              have c37 := ipos H
              rw [if_pos c37] at H
              have c37b0 := eq_true c37
              have c37b1 := decide_eq_true c37
              try have c37b2 := eq_false (Nat.not_lt.2 c37)
              have c37n0 : t122.size + 3 + t128.size + 1 + t134.size + 3 ≤ 9223372036854775807 := by have h_ := c37; simp only [ByteArray.size_append] at h_; exact h_
              have c37n1 := eq_true c37n0
              have c37n2 := eq_false (Nat.not_lt.2 c37n0)
              simp only [Option.some.injEq, Prod.mk.injEq] at H
              obtain ⟨rfl, rfl, rfl⟩ := H
              go_wp2_with (first | ((with_reducible refine gtD (N := 33) rfl ?_); refine Kd.R_lit Kd.string _ 9 ?hg (N := 33) ?hd (xs := ([(⟨#[120]⟩ : ByteArray), (⟨#[121]⟩ : ByteArray), (⟨#[122]⟩ : ByteArray)] : List ByteArray)) (inner := [.string (⟨#[120]⟩ : ByteArray), .string (⟨#[121]⟩ : ByteArray), .string (⟨#[122]⟩ : ByteArray)]) (ok := fun _ => True) (okp := fun _ => True) ?hr ?hp (fun _ hk => hk) trivial (Below.refl _ _) (Nat.le_refl _) (by simp) ?_; (case hd => rfl); (case hg => rfl); (case hr => first | (go_simp; done) | (go_simp; rfl)); (case hp => exact (Reps.one (show Kd.M Kd.string _ _ _ (⟨#[120]⟩ : ByteArray) [.string (⟨#[120]⟩ : ByteArray)] from rfl) (Reps.one (show Kd.M Kd.string _ _ _ (⟨#[121]⟩ : ByteArray) [.string (⟨#[121]⟩ : ByteArray)] from rfl) (Reps.one (show Kd.M Kd.string _ _ _ (⟨#[122]⟩ : ByteArray) [.string (⟨#[122]⟩ : ByteArray)] from rfl) (Reps.none _ _))))); intro v120 w38 ho39 hb hg_ hnew_; clear hg_ hnew_; (first | rw [← Ny119.out] at ho39 | (simp only [Int.reduceToNat] at ho39; rw [← Ny119.out] at ho39)); have n0_ := Zs0.mk (Kd.R_lower ho39 (keep_size (w := w) (g := g) (row := none) (by repeat (first | (with_reducible first | exact HK.out | apply KeepBut.set_ | apply keep_drewN | apply keep_drew | apply keep_alloc) | exact HK.out)))); have n1_ := Zs0.mk (IsS86.below (by repeat (first | (with_reducible first | exact HI0.out | apply IsS86.alloc | apply IsS86.drewN | apply IsS86.drew | apply IsS86.set_1 | apply IsS86.set_2) | exact HI0.out)) hb); have n2_ := Zs0.mk (KeepBut.trans (by repeat (first | (with_reducible first | exact HK.out | apply KeepBut.set_ | apply keep_drewN | apply keep_drew | apply keep_alloc) | exact HK.out)) (KeepBut.of_below hb g none) (.inl rfl)); have n3_ := Zs0.mk (blT (by repeat (first | (with_reducible first | exact HB.out | apply blA | apply pbN | apply bl1 | refine blS ?_ (IsS86.ge HI0.out)) | exact HB.out)) hb); clear HI0; clear HK; clear HB; have HO121 := n0_; have HI0 := n1_; have HK := n2_; have HB := n3_; clear n0_ n1_ n2_ n3_; clear hb ho39; obtain ⟨Ao40, co40, eo40⟩ := Kd.R_slice HO121.out; subst eo40) | ((with_reducible refine gtC (f := 62) rfl ?_); refine goesL_ (some 34) rfl rfl Tryd.func62 (by kernel_rfl) rfl #[.pointer (some ⟨g, 0, none⟩), .slice Ao40 y119.length co40] rfl (by (try simp only [List.map_toArray, List.map_cons, List.map_nil]); first | done | rfl | (simp only [List.length_drop, List.length_take]; rfl)) ?_; (with_reducible refine (spec_l01Pick.calls g s0_0 t105 t106 _ _ y119 t122 t123 t124 w0 _ ?side1 ?side2 ?side3 ?side4 ?side5 A30.out).mono ?_); (case side1 => repeat (first | (with_reducible first | exact HI0.out | apply IsS86.alloc | apply IsS86.drewN | apply IsS86.drew | apply IsS86.set_1 | apply IsS86.set_2) | exact HI0.out)); (case side2 => repeat (first | (with_reducible first | exact HB.out | apply blA | apply pbN | apply bl1 | refine blS ?_ (IsS86.ge HI0.out)) | exact HB.out)); (case side3 => repeat (first | exact (Kd.R_reads' HO121.out).2.2 | (with_reducible refine Kd.C_alloc ?_ _) | (with_reducible refine Kd.C_drewN ?_ _) | (with_reducible refine Kd.C_drew ?_))); (case side4 => exact (Kd.R_reads' HO121.out).2.1); (case side5 => exact far_slice (IsS86.own_ne HI0.out HO121.out (by decide))); rintro e w41 ⟨rfl, hi, hb, hk⟩; refine ⟨_, rfl, ?_⟩; have n0_ := Zs0.mk (Kd.R_mono (Kd.R_keep (IsS86.apart (show IsS86 w0 _ g s0_0 t105 t106 from by repeat (first | (with_reducible first | exact HI0.out | apply IsS86.alloc | apply IsS86.drewN | apply IsS86.drew | apply IsS86.set_1 | apply IsS86.set_2) | exact HI0.out)) (by (with_reducible repeat (first | apply Kd.R_alloc | apply Kd.R_drewN | apply Kd.R_drew)); exact HO121.out) (by decide)) hk (fun _ h => h.2)) (fun _ h => h.1)); have n1_ := Zs0.mk (KeepBut.trans (by repeat (first | (with_reducible first | exact HK.out | apply KeepBut.set_ | apply keep_drewN | apply keep_drew | apply keep_alloc) | exact HK.out)) hk (.inl rfl)); have n2_ := Zs0.mk (hb); have n3_ := Zs0.mk (hi); clear HO121; clear HK; clear HB; clear HI0; have HO121 := n0_; have HK := n1_; have HB := n2_; have HI0 := n3_; clear n0_ n1_ n2_ n3_; (try clear hb); (try clear hb2); (try clear hk); (try clear hi)) | ((with_reducible refine gtD (N := 37) rfl ?_); refine Kd.R_lit Kd.string _ 9 ?hg (N := 37) ?hd (xs := ([(⟨#[97]⟩ : ByteArray), (⟨#[98]⟩ : ByteArray), (⟨#[112]⟩ : ByteArray)] : List ByteArray)) (inner := [.string (⟨#[97]⟩ : ByteArray), .string (⟨#[98]⟩ : ByteArray), .string (⟨#[112]⟩ : ByteArray)]) (ok := fun _ => True) (okp := fun _ => True) ?hr ?hp (fun _ hk => hk) trivial (Below.refl _ _) (Nat.le_refl _) (by simp) ?_; (case hd => rfl); (case hg => rfl); (case hr => first | (go_simp; done) | (go_simp; rfl)); (case hp => exact (Reps.one (show Kd.M Kd.string _ _ _ (⟨#[97]⟩ : ByteArray) [.string (⟨#[97]⟩ : ByteArray)] from rfl) (Reps.one (show Kd.M Kd.string _ _ _ (⟨#[98]⟩ : ByteArray) [.string (⟨#[98]⟩ : ByteArray)] from rfl) (Reps.one (show Kd.M Kd.string _ _ _ (⟨#[112]⟩ : ByteArray) [.string (⟨#[112]⟩ : ByteArray)] from rfl) (Reps.none _ _))))); intro v126 w42 ho43 hb hg_ hnew_; clear hg_ hnew_; (first | rw [← Ny125.out] at ho43 | (simp only [Int.reduceToNat] at ho43; rw [← Ny125.out] at ho43)); have n0_ := Zs0.mk (Kd.R_elder' (by (with_reducible repeat (first | apply Kd.R_alloc | apply Kd.R_drewN | apply Kd.R_drew)); exact HO121.out) (Kd.R_base ho43) hb); have n1_ := Zs0.mk (Kd.R_lower (Kd.R_new' ho43 (Kd.R_lt (by (with_reducible repeat (first | apply Kd.R_alloc | apply Kd.R_drewN | apply Kd.R_drew)); exact HO121.out))) (keep_size (w := w) (g := g) (row := none) (by repeat (first | (with_reducible first | exact HK.out | apply KeepBut.set_ | apply keep_drewN | apply keep_drew | apply keep_alloc) | exact HK.out)))); have n2_ := Zs0.mk (IsS86.below (by repeat (first | (with_reducible first | exact HI0.out | apply IsS86.alloc | apply IsS86.drewN | apply IsS86.drew | apply IsS86.set_1 | apply IsS86.set_2) | exact HI0.out)) hb); have n3_ := Zs0.mk (KeepBut.trans (by repeat (first | (with_reducible first | exact HK.out | apply KeepBut.set_ | apply keep_drewN | apply keep_drew | apply keep_alloc) | exact HK.out)) (KeepBut.of_below hb g none) (.inl rfl)); have n4_ := Zs0.mk (blT (by repeat (first | (with_reducible first | exact HB.out | apply blA | apply pbN | apply bl1 | refine blS ?_ (IsS86.ge HI0.out)) | exact HB.out)) hb); clear HO121; clear HI0; clear HK; clear HB; have HO121 := n0_; have HO127 := n1_; have HI0 := n2_; have HK := n3_; have HB := n4_; clear n0_ n1_ n2_ n3_ n4_; clear hb ho43; obtain ⟨Ao44, co44, eo44⟩ := Kd.R_slice HO127.out; subst eo44) | ((with_reducible refine gtC (f := 62) rfl ?_); refine goesL_ (some 38) rfl rfl Tryd.func62 (by kernel_rfl) rfl #[.pointer (some ⟨g, 0, none⟩), .slice Ao44 y125.length co44] rfl (by (try simp only [List.map_toArray, List.map_cons, List.map_nil]); first | done | rfl | (simp only [List.length_drop, List.length_take]; rfl)) ?_; (with_reducible refine (spec_l01Pick.calls g s0_0 t123 t124 _ _ y125 t128 t129 t130 w0 _ ?side1 ?side2 ?side3 ?side4 ?side5 A32.out).mono ?_); (case side1 => repeat (first | (with_reducible first | exact HI0.out | apply IsS86.alloc | apply IsS86.drewN | apply IsS86.drew | apply IsS86.set_1 | apply IsS86.set_2) | exact HI0.out)); (case side2 => repeat (first | (with_reducible first | exact HB.out | apply blA | apply pbN | apply bl1 | refine blS ?_ (IsS86.ge HI0.out)) | exact HB.out)); (case side3 => repeat (first | exact (Kd.R_reads' HO127.out).2.2 | (with_reducible refine Kd.C_alloc ?_ _) | (with_reducible refine Kd.C_drewN ?_ _) | (with_reducible refine Kd.C_drew ?_))); (case side4 => exact (Kd.R_reads' HO127.out).2.1); (case side5 => exact far_slice (IsS86.own_ne HI0.out HO127.out (by decide))); rintro e w45 ⟨rfl, hi, hb, hk⟩; refine ⟨_, rfl, ?_⟩; have n0_ := Zs0.mk (Kd.R_mono (Kd.R_keep (IsS86.apart (show IsS86 w0 _ g s0_0 t123 t124 from by repeat (first | (with_reducible first | exact HI0.out | apply IsS86.alloc | apply IsS86.drewN | apply IsS86.drew | apply IsS86.set_1 | apply IsS86.set_2) | exact HI0.out)) (by (with_reducible repeat (first | apply Kd.R_alloc | apply Kd.R_drewN | apply Kd.R_drew)); exact HO121.out) (by decide)) hk (fun _ h => h.2)) (fun _ h => h.1)); have n1_ := Zs0.mk (Kd.R_mono (Kd.R_keep (IsS86.apart (show IsS86 w0 _ g s0_0 t123 t124 from by repeat (first | (with_reducible first | exact HI0.out | apply IsS86.alloc | apply IsS86.drewN | apply IsS86.drew | apply IsS86.set_1 | apply IsS86.set_2) | exact HI0.out)) (by (with_reducible repeat (first | apply Kd.R_alloc | apply Kd.R_drewN | apply Kd.R_drew)); exact HO127.out) (by decide)) hk (fun _ h => h.2)) (fun _ h => h.1)); have n2_ := Zs0.mk (KeepBut.trans (by repeat (first | (with_reducible first | exact HK.out | apply KeepBut.set_ | apply keep_drewN | apply keep_drew | apply keep_alloc) | exact HK.out)) hk (.inl rfl)); have n3_ := Zs0.mk (hb); have n4_ := Zs0.mk (hi); clear HO121; clear HO127; clear HK; clear HB; clear HI0; have HO121 := n0_; have HO127 := n1_; have HK := n2_; have HB := n3_; have HI0 := n4_; clear n0_ n1_ n2_ n3_ n4_; (try clear hb); (try clear hb2); (try clear hk); (try clear hi)) | ((with_reducible refine gtD (N := 42) rfl ?_); refine Kd.R_lit Kd.string _ 9 ?hg (N := 42) ?hd (xs := ([(⟨#[48]⟩ : ByteArray), (⟨#[49]⟩ : ByteArray), (⟨#[120, 32, 38, 32, 51]⟩ : ByteArray), (⟨#[120, 32, 43, 32, 49]⟩ : ByteArray), (⟨#[50]⟩ : ByteArray)] : List ByteArray)) (inner := [.string (⟨#[48]⟩ : ByteArray), .string (⟨#[49]⟩ : ByteArray), .string (⟨#[120, 32, 38, 32, 51]⟩ : ByteArray), .string (⟨#[120, 32, 43, 32, 49]⟩ : ByteArray), .string (⟨#[50]⟩ : ByteArray)]) (ok := fun _ => True) (okp := fun _ => True) ?hr ?hp (fun _ hk => hk) trivial (Below.refl _ _) (Nat.le_refl _) (by simp) ?_; (case hd => rfl); (case hg => rfl); (case hr => first | (go_simp; done) | (go_simp; rfl)); (case hp => exact (Reps.one (show Kd.M Kd.string _ _ _ (⟨#[48]⟩ : ByteArray) [.string (⟨#[48]⟩ : ByteArray)] from rfl) (Reps.one (show Kd.M Kd.string _ _ _ (⟨#[49]⟩ : ByteArray) [.string (⟨#[49]⟩ : ByteArray)] from rfl) (Reps.one (show Kd.M Kd.string _ _ _ (⟨#[120, 32, 38, 32, 51]⟩ : ByteArray) [.string (⟨#[120, 32, 38, 32, 51]⟩ : ByteArray)] from rfl) (Reps.one (show Kd.M Kd.string _ _ _ (⟨#[120, 32, 43, 32, 49]⟩ : ByteArray) [.string (⟨#[120, 32, 43, 32, 49]⟩ : ByteArray)] from rfl) (Reps.one (show Kd.M Kd.string _ _ _ (⟨#[50]⟩ : ByteArray) [.string (⟨#[50]⟩ : ByteArray)] from rfl) (Reps.none _ _))))))); intro v132 w46 ho47 hb hg_ hnew_; clear hg_ hnew_; (first | rw [← Ny131.out] at ho47 | (simp only [Int.reduceToNat] at ho47; rw [← Ny131.out] at ho47)); have n0_ := Zs0.mk (Kd.R_elder' (by (with_reducible repeat (first | apply Kd.R_alloc | apply Kd.R_drewN | apply Kd.R_drew)); exact HO121.out) (Kd.R_base ho47) hb); have n1_ := Zs0.mk (Kd.R_elder' (by (with_reducible repeat (first | apply Kd.R_alloc | apply Kd.R_drewN | apply Kd.R_drew)); exact HO127.out) (Kd.R_base ho47) hb); have n2_ := Zs0.mk (Kd.R_lower (Kd.R_new' (Kd.R_new' ho47 (Kd.R_lt (by (with_reducible repeat (first | apply Kd.R_alloc | apply Kd.R_drewN | apply Kd.R_drew)); exact HO121.out))) (Kd.R_lt (by (with_reducible repeat (first | apply Kd.R_alloc | apply Kd.R_drewN | apply Kd.R_drew)); exact HO127.out))) (keep_size (w := w) (g := g) (row := none) (by repeat (first | (with_reducible first | exact HK.out | apply KeepBut.set_ | apply keep_drewN | apply keep_drew | apply keep_alloc) | exact HK.out)))); have n3_ := Zs0.mk (IsS86.below (by repeat (first | (with_reducible first | exact HI0.out | apply IsS86.alloc | apply IsS86.drewN | apply IsS86.drew | apply IsS86.set_1 | apply IsS86.set_2) | exact HI0.out)) hb); have n4_ := Zs0.mk (KeepBut.trans (by repeat (first | (with_reducible first | exact HK.out | apply KeepBut.set_ | apply keep_drewN | apply keep_drew | apply keep_alloc) | exact HK.out)) (KeepBut.of_below hb g none) (.inl rfl)); have n5_ := Zs0.mk (blT (by repeat (first | (with_reducible first | exact HB.out | apply blA | apply pbN | apply bl1 | refine blS ?_ (IsS86.ge HI0.out)) | exact HB.out)) hb); clear HO121; clear HO127; clear HI0; clear HK; clear HB; have HO121 := n0_; have HO127 := n1_; have HO133 := n2_; have HI0 := n3_; have HK := n4_; have HB := n5_; clear n0_ n1_ n2_ n3_ n4_ n5_; clear hb ho47; obtain ⟨Ao48, co48, eo48⟩ := Kd.R_slice HO133.out; subst eo48) | ((with_reducible refine gtC (f := 62) rfl ?_); refine goesL_ (some 43) rfl rfl Tryd.func62 (by kernel_rfl) rfl #[.pointer (some ⟨g, 0, none⟩), .slice Ao48 y131.length co48] rfl (by (try simp only [List.map_toArray, List.map_cons, List.map_nil]); first | done | rfl | (simp only [List.length_drop, List.length_take]; rfl)) ?_; (with_reducible refine (spec_l01Pick.calls g s0_0 t129 t130 _ _ y131 t134 t135 t136 w0 _ ?side1 ?side2 ?side3 ?side4 ?side5 A35.out).mono ?_); (case side1 => repeat (first | (with_reducible first | exact HI0.out | apply IsS86.alloc | apply IsS86.drewN | apply IsS86.drew | apply IsS86.set_1 | apply IsS86.set_2) | exact HI0.out)); (case side2 => repeat (first | (with_reducible first | exact HB.out | apply blA | apply pbN | apply bl1 | refine blS ?_ (IsS86.ge HI0.out)) | exact HB.out)); (case side3 => repeat (first | exact (Kd.R_reads' HO133.out).2.2 | (with_reducible refine Kd.C_alloc ?_ _) | (with_reducible refine Kd.C_drewN ?_ _) | (with_reducible refine Kd.C_drew ?_))); (case side4 => exact (Kd.R_reads' HO133.out).2.1); (case side5 => exact far_slice (IsS86.own_ne HI0.out HO133.out (by decide))); rintro e w49 ⟨rfl, hi, hb, hk⟩; refine ⟨_, rfl, ?_⟩; have n0_ := Zs0.mk (Kd.R_mono (Kd.R_keep (IsS86.apart (show IsS86 w0 _ g s0_0 t129 t130 from by repeat (first | (with_reducible first | exact HI0.out | apply IsS86.alloc | apply IsS86.drewN | apply IsS86.drew | apply IsS86.set_1 | apply IsS86.set_2) | exact HI0.out)) (by (with_reducible repeat (first | apply Kd.R_alloc | apply Kd.R_drewN | apply Kd.R_drew)); exact HO121.out) (by decide)) hk (fun _ h => h.2)) (fun _ h => h.1)); have n1_ := Zs0.mk (Kd.R_mono (Kd.R_keep (IsS86.apart (show IsS86 w0 _ g s0_0 t129 t130 from by repeat (first | (with_reducible first | exact HI0.out | apply IsS86.alloc | apply IsS86.drewN | apply IsS86.drew | apply IsS86.set_1 | apply IsS86.set_2) | exact HI0.out)) (by (with_reducible repeat (first | apply Kd.R_alloc | apply Kd.R_drewN | apply Kd.R_drew)); exact HO127.out) (by decide)) hk (fun _ h => h.2)) (fun _ h => h.1)); have n2_ := Zs0.mk (Kd.R_mono (Kd.R_keep (IsS86.apart (show IsS86 w0 _ g s0_0 t129 t130 from by repeat (first | (with_reducible first | exact HI0.out | apply IsS86.alloc | apply IsS86.drewN | apply IsS86.drew | apply IsS86.set_1 | apply IsS86.set_2) | exact HI0.out)) (by (with_reducible repeat (first | apply Kd.R_alloc | apply Kd.R_drewN | apply Kd.R_drew)); exact HO133.out) (by decide)) hk (fun _ h => h.2)) (fun _ h => h.1)); have n3_ := Zs0.mk (KeepBut.trans (by repeat (first | (with_reducible first | exact HK.out | apply KeepBut.set_ | apply keep_drewN | apply keep_drew | apply keep_alloc) | exact HK.out)) hk (.inl rfl)); have n4_ := Zs0.mk (hb); have n5_ := Zs0.mk (hi); clear HO121; clear HO127; clear HO133; clear HK; clear HB; clear HI0; have HO121 := n0_; have HO127 := n1_; have HO133 := n2_; have HK := n3_; have HB := n4_; have HI0 := n5_; clear n0_ n1_ n2_ n3_ n4_ n5_; (try clear hb); (try clear hb2); (try clear hk); (try clear hi)))
              go_ret
              exact ⟨by first | rfl | (simp [eWn, eWs] <;> rfl) | (simp [*, eWn, eWs] <;> rfl), by repeat (first | (with_reducible first | exact HI0.out | apply IsS86.alloc | apply IsS86.drewN | apply IsS86.drew | apply IsS86.set_1 | apply IsS86.set_2) | exact HI0.out), by repeat (first | (with_reducible first | exact HB.out | apply blA | apply pbN | apply bl1 | refine blS ?_ (IsS86.ge HI0.out)) | exact HB.out), by repeat (first | (with_reducible first | exact HK.out | apply KeepBut.set_ | apply keep_drewN | apply keep_drew | apply keep_alloc) | exact HK.out)⟩
            · replace c29 := Bool.eq_false_iff.mpr c29
              subst c29
              have H1 : (if t104 = 5 then (if 4 + t101.size ≤ 9223372036854775807 then (if ((⟨#[112, 117, 116, 32]⟩ : ByteArray) ++ t101).size + 2 ≤ 9223372036854775807 then (some (((⟨#[112, 117, 116, 32]⟩ : ByteArray) ++ t101) ++ (⟨#[59, 10]⟩ : ByteArray), t105, t106)) else (none)) else (none)) else (if t104 = 6 then (if a2 > 0 then (if 3 + t101.size ≤ 9223372036854775807 then (if ((⟨#[105, 102, 32]⟩ : ByteArray) ++ t101).size + 3 ≤ 9223372036854775807 then ((spec_l01Stmt.f kj26 s0_0 t105 t106 l1 (wrap64 (a2 - 1))).bind fun bt137 => (if (((⟨#[105, 102, 32]⟩ : ByteArray) ++ t101) ++ (⟨#[32, 123, 10]⟩ : ByteArray)).size + bt137.1.size ≤ 9223372036854775807 then ((spec_l01Stmt.f kj26 s0_0 bt137.2.1 bt137.2.2 l1 (wrap64 (a2 - 1))).bind fun bt140 => (if ((((⟨#[105, 102, 32]⟩ : ByteArray) ++ t101) ++ (⟨#[32, 123, 10]⟩ : ByteArray)) ++ bt137.1).size + bt140.1.size ≤ 9223372036854775807 then (if (((((⟨#[105, 102, 32]⟩ : ByteArray) ++ t101) ++ (⟨#[32, 123, 10]⟩ : ByteArray)) ++ bt137.1) ++ bt140.1).size + 9 ≤ 9223372036854775807 then ((spec_l01Stmt.f kj26 s0_0 bt140.2.1 bt140.2.2 l1 (wrap64 (a2 - 1))).bind fun bt143 => (if ((((((⟨#[105, 102, 32]⟩ : ByteArray) ++ t101) ++ (⟨#[32, 123, 10]⟩ : ByteArray)) ++ bt137.1) ++ bt140.1) ++ (⟨#[125, 32, 101, 108, 115, 101, 32, 123, 10]⟩ : ByteArray)).size + bt143.1.size ≤ 9223372036854775807 then (if (((((((⟨#[105, 102, 32]⟩ : ByteArray) ++ t101) ++ (⟨#[32, 123, 10]⟩ : ByteArray)) ++ bt137.1) ++ bt140.1) ++ (⟨#[125, 32, 101, 108, 115, 101, 32, 123, 10]⟩ : ByteArray)) ++ bt143.1).size + 2 ≤ 9223372036854775807 then (some ((((((((⟨#[105, 102, 32]⟩ : ByteArray) ++ t101) ++ (⟨#[32, 123, 10]⟩ : ByteArray)) ++ bt137.1) ++ bt140.1) ++ (⟨#[125, 32, 101, 108, 115, 101, 32, 123, 10]⟩ : ByteArray)) ++ bt143.1) ++ (⟨#[125, 10]⟩ : ByteArray), bt143.2.1, bt143.2.2)) else (none)) else (none))) else (none)) else (none))) else (none))) else (none)) else (none)) else ((spec_l01Pick.f s0_0 t105 t106 (([(⟨#[120]⟩ : ByteArray), (⟨#[121]⟩ : ByteArray), (⟨#[122]⟩ : ByteArray), (⟨#[120]⟩ : ByteArray)] : List ByteArray))).bind fun bt149 => (if bt149.1.size + 3 ≤ 9223372036854775807 then (if (bt149.1 ++ (⟨#[32, 61, 32]⟩ : ByteArray)).size + t101.size ≤ 9223372036854775807 then (if ((bt149.1 ++ (⟨#[32, 61, 32]⟩ : ByteArray)) ++ t101).size + 2 ≤ 9223372036854775807 then (some (((bt149.1 ++ (⟨#[32, 61, 32]⟩ : ByteArray)) ++ t101) ++ (⟨#[59, 10]⟩ : ByteArray), bt149.2.1, bt149.2.2)) else (none)) else (none)) else (none)))) else (if t104 = 7 then (if a2 > 0 then ((spec_l01Pick.f s0_0 t105 t106 (([(⟨#[50]⟩ : ByteArray), (⟨#[51]⟩ : ByteArray), (⟨#[49]⟩ : ByteArray)] : List ByteArray))).bind fun bt155 => (if 4 + bt155.1.size ≤ 9223372036854775807 then (if ((⟨#[110, 32, 61, 32]⟩ : ByteArray) ++ bt155.1).size + 23 ≤ 9223372036854775807 then ((spec_l01Stmt.f kj26 s0_0 bt155.2.1 bt155.2.2 l1 0).bind fun bt158 => (if (((⟨#[110, 32, 61, 32]⟩ : ByteArray) ++ bt155.1) ++ (⟨#[59, 10, 119, 104, 105, 108, 101, 32, 110, 32, 123, 10, 110, 32, 61, 32, 110, 32, 45, 32, 49, 59, 10]⟩ : ByteArray)).size + bt158.1.size ≤ 9223372036854775807 then ((spec_l01Stmt.f kj26 s0_0 bt158.2.1 bt158.2.2 l1 0).bind fun bt161 => (if ((((⟨#[110, 32, 61, 32]⟩ : ByteArray) ++ bt155.1) ++ (⟨#[59, 10, 119, 104, 105, 108, 101, 32, 110, 32, 123, 10, 110, 32, 61, 32, 110, 32, 45, 32, 49, 59, 10]⟩ : ByteArray)) ++ bt158.1).size + bt161.1.size ≤ 9223372036854775807 then (if (((((⟨#[110, 32, 61, 32]⟩ : ByteArray) ++ bt155.1) ++ (⟨#[59, 10, 119, 104, 105, 108, 101, 32, 110, 32, 123, 10, 110, 32, 61, 32, 110, 32, 45, 32, 49, 59, 10]⟩ : ByteArray)) ++ bt158.1) ++ bt161.1).size + 2 ≤ 9223372036854775807 then (some ((((((⟨#[110, 32, 61, 32]⟩ : ByteArray) ++ bt155.1) ++ (⟨#[59, 10, 119, 104, 105, 108, 101, 32, 110, 32, 123, 10, 110, 32, 61, 32, 110, 32, 45, 32, 49, 59, 10]⟩ : ByteArray)) ++ bt158.1) ++ bt161.1) ++ (⟨#[125, 10]⟩ : ByteArray), bt161.2.1, bt161.2.2)) else (none)) else (none))) else (none))) else (none)) else (none))) else ((spec_l01Pick.f s0_0 t105 t106 (([(⟨#[120]⟩ : ByteArray), (⟨#[121]⟩ : ByteArray), (⟨#[122]⟩ : ByteArray), (⟨#[120]⟩ : ByteArray)] : List ByteArray))).bind fun bt167 => (if bt167.1.size + 3 ≤ 9223372036854775807 then (if (bt167.1 ++ (⟨#[32, 61, 32]⟩ : ByteArray)).size + t101.size ≤ 9223372036854775807 then (if ((bt167.1 ++ (⟨#[32, 61, 32]⟩ : ByteArray)) ++ t101).size + 2 ≤ 9223372036854775807 then (some (((bt167.1 ++ (⟨#[32, 61, 32]⟩ : ByteArray)) ++ t101) ++ (⟨#[59, 10]⟩ : ByteArray), bt167.2.1, bt167.2.2)) else (none)) else (none)) else (none)))) else (if t104 = 8 then ((spec_l01Pick.f s0_0 t105 t106 (([(⟨#[48]⟩ : ByteArray), (⟨#[49]⟩ : ByteArray), (⟨#[120, 32, 38, 32, 51]⟩ : ByteArray), (⟨#[112, 32, 43, 32, 49]⟩ : ByteArray), (⟨#[50]⟩ : ByteArray)] : List ByteArray))).bind fun bt173 => (if 4 + bt173.1.size ≤ 9223372036854775807 then (if ((⟨#[112, 32, 61, 32]⟩ : ByteArray) ++ bt173.1).size + 2 ≤ 9223372036854775807 then (some (((⟨#[112, 32, 61, 32]⟩ : ByteArray) ++ bt173.1) ++ (⟨#[59, 10]⟩ : ByteArray), bt173.2.1, bt173.2.2)) else (none)) else (none))) else (if t104 = 9 then ((spec_l01Once.f s0_0 t105 t106 3).bind fun bt176 => (if bt176.1 = true then (if 7 + t101.size ≤ 9223372036854775807 then (if ((⟨#[114, 101, 116, 117, 114, 110, 32]⟩ : ByteArray) ++ t101).size + 2 ≤ 9223372036854775807 then (some (((⟨#[114, 101, 116, 117, 114, 110, 32]⟩ : ByteArray) ++ t101) ++ (⟨#[59, 10]⟩ : ByteArray), bt176.2.1, bt176.2.2)) else (none)) else (none)) else ((spec_l01Pick.f s0_0 bt176.2.1 bt176.2.2 (([(⟨#[120]⟩ : ByteArray), (⟨#[121]⟩ : ByteArray), (⟨#[122]⟩ : ByteArray), (⟨#[120]⟩ : ByteArray)] : List ByteArray))).bind fun bt182 => (if bt182.1.size + 3 ≤ 9223372036854775807 then (if (bt182.1 ++ (⟨#[32, 61, 32]⟩ : ByteArray)).size + t101.size ≤ 9223372036854775807 then (if ((bt182.1 ++ (⟨#[32, 61, 32]⟩ : ByteArray)) ++ t101).size + 2 ≤ 9223372036854775807 then (some (((bt182.1 ++ (⟨#[32, 61, 32]⟩ : ByteArray)) ++ t101) ++ (⟨#[59, 10]⟩ : ByteArray), bt182.2.1, bt182.2.2)) else (none)) else (none)) else (none))))) else ((spec_l01Pick.f s0_0 t105 t106 (([(⟨#[120]⟩ : ByteArray), (⟨#[121]⟩ : ByteArray), (⟨#[122]⟩ : ByteArray), (⟨#[120]⟩ : ByteArray)] : List ByteArray))).bind fun bt188 => (if bt188.1.size + 3 ≤ 9223372036854775807 then (if (bt188.1 ++ (⟨#[32, 61, 32]⟩ : ByteArray)).size + t101.size ≤ 9223372036854775807 then (if ((bt188.1 ++ (⟨#[32, 61, 32]⟩ : ByteArray)) ++ t101).size + 2 ≤ 9223372036854775807 then (some (((bt188.1 ++ (⟨#[32, 61, 32]⟩ : ByteArray)) ++ t101) ++ (⟨#[59, 10]⟩ : ByteArray), bt188.2.1, bt188.2.2)) else (none)) else (none)) else (none)))))))) = some (r1, r2, r3) := by rw [if_neg (show ¬ (false = true) by decide)] at H; exact H
              clear H
              have H := H1
              clear H1
              by_cases c50 : t104 = 5
              · rw [if_pos c50] at H
                have c50b0 : (t104 == 5) = true := beq_iff_eq.mpr c50
                have c50b1 : (t104 != 5) = false := bne_eq_false_iff_eq.mpr c50
                clear c50
                have c51 := ipos H
                rw [if_pos c51] at H
                have c51b0 := eq_true c51
                have c51b1 := decide_eq_true c51
                try have c51b2 := eq_false (Nat.not_lt.2 c51)
                have c52 := ipos H
                rw [if_pos c52] at H
                have c52b0 := eq_true c52
                have c52b1 := decide_eq_true c52
                try have c52b2 := eq_false (Nat.not_lt.2 c52)
                have c52n0 : 4 + t101.size + 2 ≤ 9223372036854775807 := by have h_ := c52; simp only [ByteArray.size_append] at h_; exact h_
                have c52n1 := eq_true c52n0
                have c52n2 := eq_false (Nat.not_lt.2 c52n0)
                simp only [Option.some.injEq, Prod.mk.injEq] at H
                obtain ⟨rfl, rfl, rfl⟩ := H
                go_wp2
                go_ret
                exact ⟨by first | rfl | (simp [eWn, eWs] <;> rfl) | (simp [*, eWn, eWs] <;> rfl), by repeat (first | (with_reducible first | exact HI0.out | apply IsS86.alloc | apply IsS86.drewN | apply IsS86.drew | apply IsS86.set_1 | apply IsS86.set_2) | exact HI0.out), by repeat (first | (with_reducible first | exact HB.out | apply blA | apply pbN | apply bl1 | refine blS ?_ (IsS86.ge HI0.out)) | exact HB.out), by repeat (first | (with_reducible first | exact HK.out | apply KeepBut.set_ | apply keep_drewN | apply keep_drew | apply keep_alloc) | exact HK.out)⟩
              · rw [if_neg c50] at H
                have c50b0 : (t104 == 5) = false := beq_eq_false_iff_ne.mpr c50
                have c50b1 : (t104 != 5) = true := bne_iff_ne.mpr c50
                by_cases c53 : t104 = 6
                · rw [if_pos c53] at H
                  have c53b0 : (t104 == 6) = true := beq_iff_eq.mpr c53
                  have c53b1 : (t104 != 6) = false := bne_eq_false_iff_eq.mpr c53
                  clear c53
                  by_cases c54 : a2 > 0
                  · rw [if_pos c54] at H
                    have c54b0 : decide (0 < a2) = true := decide_eq_true c54
                    clear c54
                    have c55 := ipos H
                    rw [if_pos c55] at H
                    have c55b0 := eq_true c55
                    have c55b1 := decide_eq_true c55
                    try have c55b2 := eq_false (Nat.not_lt.2 c55)
                    have c56 := ipos H
                    rw [if_pos c56] at H
                    have c56b0 := eq_true c56
                    have c56b1 := decide_eq_true c56
                    try have c56b2 := eq_false (Nat.not_lt.2 c56)
                    have c56n0 : 3 + t101.size + 3 ≤ 9223372036854775807 := by have h_ := c56; simp only [ByteArray.size_append] at h_; exact h_
                    have c56n1 := eq_true c56n0
                    have c56n2 := eq_false (Nat.not_lt.2 c56n0)
                    replace H := Option.bind_eq_some_iff.mp H
                    obtain ⟨⟨t137, t138, t139⟩, A570, H⟩ := H
                    replace H : (if (((⟨#[105, 102, 32]⟩ : ByteArray) ++ t101) ++ (⟨#[32, 123, 10]⟩ : ByteArray)).size + t137.size ≤ 9223372036854775807 then ((spec_l01Stmt.f kj26 s0_0 t138 t139 l1 (wrap64 (a2 - 1))).bind fun bt140 => (if ((((⟨#[105, 102, 32]⟩ : ByteArray) ++ t101) ++ (⟨#[32, 123, 10]⟩ : ByteArray)) ++ t137).size + bt140.1.size ≤ 9223372036854775807 then (if (((((⟨#[105, 102, 32]⟩ : ByteArray) ++ t101) ++ (⟨#[32, 123, 10]⟩ : ByteArray)) ++ t137) ++ bt140.1).size + 9 ≤ 9223372036854775807 then ((spec_l01Stmt.f kj26 s0_0 bt140.2.1 bt140.2.2 l1 (wrap64 (a2 - 1))).bind fun bt143 => (if ((((((⟨#[105, 102, 32]⟩ : ByteArray) ++ t101) ++ (⟨#[32, 123, 10]⟩ : ByteArray)) ++ t137) ++ bt140.1) ++ (⟨#[125, 32, 101, 108, 115, 101, 32, 123, 10]⟩ : ByteArray)).size + bt143.1.size ≤ 9223372036854775807 then (if (((((((⟨#[105, 102, 32]⟩ : ByteArray) ++ t101) ++ (⟨#[32, 123, 10]⟩ : ByteArray)) ++ t137) ++ bt140.1) ++ (⟨#[125, 32, 101, 108, 115, 101, 32, 123, 10]⟩ : ByteArray)) ++ bt143.1).size + 2 ≤ 9223372036854775807 then (some ((((((((⟨#[105, 102, 32]⟩ : ByteArray) ++ t101) ++ (⟨#[32, 123, 10]⟩ : ByteArray)) ++ t137) ++ bt140.1) ++ (⟨#[125, 32, 101, 108, 115, 101, 32, 123, 10]⟩ : ByteArray)) ++ bt143.1) ++ (⟨#[125, 10]⟩ : ByteArray), bt143.2.1, bt143.2.2)) else (none)) else (none))) else (none)) else (none))) else (none)) = some (r1, r2, r3) := H
                    have A57 := Zs0.mk A570
                    clear A570
                    have c58 := ipos H
                    rw [if_pos c58] at H
                    have c58b0 := eq_true c58
                    have c58b1 := decide_eq_true c58
                    try have c58b2 := eq_false (Nat.not_lt.2 c58)
                    have c58n0 : 3 + t101.size + 3 + t137.size ≤ 9223372036854775807 := by have h_ := c58; simp only [ByteArray.size_append] at h_; exact h_
                    have c58n1 := eq_true c58n0
                    have c58n2 := eq_false (Nat.not_lt.2 c58n0)
                    replace H := Option.bind_eq_some_iff.mp H
                    obtain ⟨⟨t140, t141, t142⟩, A590, H⟩ := H
                    replace H : (if ((((⟨#[105, 102, 32]⟩ : ByteArray) ++ t101) ++ (⟨#[32, 123, 10]⟩ : ByteArray)) ++ t137).size + t140.size ≤ 9223372036854775807 then (if (((((⟨#[105, 102, 32]⟩ : ByteArray) ++ t101) ++ (⟨#[32, 123, 10]⟩ : ByteArray)) ++ t137) ++ t140).size + 9 ≤ 9223372036854775807 then ((spec_l01Stmt.f kj26 s0_0 t141 t142 l1 (wrap64 (a2 - 1))).bind fun bt143 => (if ((((((⟨#[105, 102, 32]⟩ : ByteArray) ++ t101) ++ (⟨#[32, 123, 10]⟩ : ByteArray)) ++ t137) ++ t140) ++ (⟨#[125, 32, 101, 108, 115, 101, 32, 123, 10]⟩ : ByteArray)).size + bt143.1.size ≤ 9223372036854775807 then (if (((((((⟨#[105, 102, 32]⟩ : ByteArray) ++ t101) ++ (⟨#[32, 123, 10]⟩ : ByteArray)) ++ t137) ++ t140) ++ (⟨#[125, 32, 101, 108, 115, 101, 32, 123, 10]⟩ : ByteArray)) ++ bt143.1).size + 2 ≤ 9223372036854775807 then (some ((((((((⟨#[105, 102, 32]⟩ : ByteArray) ++ t101) ++ (⟨#[32, 123, 10]⟩ : ByteArray)) ++ t137) ++ t140) ++ (⟨#[125, 32, 101, 108, 115, 101, 32, 123, 10]⟩ : ByteArray)) ++ bt143.1) ++ (⟨#[125, 10]⟩ : ByteArray), bt143.2.1, bt143.2.2)) else (none)) else (none))) else (none)) else (none)) = some (r1, r2, r3) := H
                    have A59 := Zs0.mk A590
                    clear A590
                    have c60 := ipos H
                    rw [if_pos c60] at H
                    have c60b0 := eq_true c60
                    have c60b1 := decide_eq_true c60
                    try have c60b2 := eq_false (Nat.not_lt.2 c60)
                    have c60n0 : 3 + t101.size + 3 + t137.size + t140.size ≤ 9223372036854775807 := by have h_ := c60; simp only [ByteArray.size_append] at h_; exact h_
                    have c60n1 := eq_true c60n0
                    have c60n2 := eq_false (Nat.not_lt.2 c60n0)
                    have c61 := ipos H
                    rw [if_pos c61] at H
                    have c61b0 := eq_true c61
                    have c61b1 := decide_eq_true c61
                    try have c61b2 := eq_false (Nat.not_lt.2 c61)
                    have c61n0 : 3 + t101.size + 3 + t137.size + t140.size + 9 ≤ 9223372036854775807 := by have h_ := c61; simp only [ByteArray.size_append] at h_; exact h_
                    have c61n1 := eq_true c61n0
                    have c61n2 := eq_false (Nat.not_lt.2 c61n0)
                    replace H := Option.bind_eq_some_iff.mp H
                    obtain ⟨⟨t143, t144, t145⟩, A620, H⟩ := H
                    replace H : (if ((((((⟨#[105, 102, 32]⟩ : ByteArray) ++ t101) ++ (⟨#[32, 123, 10]⟩ : ByteArray)) ++ t137) ++ t140) ++ (⟨#[125, 32, 101, 108, 115, 101, 32, 123, 10]⟩ : ByteArray)).size + t143.size ≤ 9223372036854775807 then (if (((((((⟨#[105, 102, 32]⟩ : ByteArray) ++ t101) ++ (⟨#[32, 123, 10]⟩ : ByteArray)) ++ t137) ++ t140) ++ (⟨#[125, 32, 101, 108, 115, 101, 32, 123, 10]⟩ : ByteArray)) ++ t143).size + 2 ≤ 9223372036854775807 then (some ((((((((⟨#[105, 102, 32]⟩ : ByteArray) ++ t101) ++ (⟨#[32, 123, 10]⟩ : ByteArray)) ++ t137) ++ t140) ++ (⟨#[125, 32, 101, 108, 115, 101, 32, 123, 10]⟩ : ByteArray)) ++ t143) ++ (⟨#[125, 10]⟩ : ByteArray), t144, t145)) else (none)) else (none)) = some (r1, r2, r3) := H
                    have A62 := Zs0.mk A620
                    clear A620
                    have c63 := ipos H
                    rw [if_pos c63] at H
                    have c63b0 := eq_true c63
                    have c63b1 := decide_eq_true c63
                    try have c63b2 := eq_false (Nat.not_lt.2 c63)
                    have c63n0 : 3 + t101.size + 3 + t137.size + t140.size + 9 + t143.size ≤ 9223372036854775807 := by have h_ := c63; simp only [ByteArray.size_append] at h_; exact h_
                    have c63n1 := eq_true c63n0
                    have c63n2 := eq_false (Nat.not_lt.2 c63n0)
                    have c64 := ipos H
                    rw [if_pos c64] at H
                    have c64b0 := eq_true c64
                    have c64b1 := decide_eq_true c64
                    try have c64b2 := eq_false (Nat.not_lt.2 c64)
                    have c64n0 : 3 + t101.size + 3 + t137.size + t140.size + 9 + t143.size + 2 ≤ 9223372036854775807 := by have h_ := c64; simp only [ByteArray.size_append] at h_; exact h_
                    have c64n1 := eq_true c64n0
                    have c64n2 := eq_false (Nat.not_lt.2 c64n0)
                    simp only [Option.some.injEq, Prod.mk.injEq] at H
                    obtain ⟨rfl, rfl, rfl⟩ := H
                    go_wp2_with (first | ((with_reducible refine gtC (f := 76) rfl ?_); refine goesL_ (some 62) rfl rfl Tryd.func76 (by kernel_rfl) rfl #[.pointer (some ⟨g, 0, none⟩), .slice A1 l1.length c1, .int .i64 (wrap64 (a2 - 1))] rfl (by (try simp only [List.map_toArray, List.map_cons, List.map_nil]); first | done | rfl | (simp only [List.length_drop, List.length_take]; rfl)) ?_; (with_reducible refine (ih kj26 (by have := HJ5.out; have := HJ26.out; omega) g s0_0 t105 t106 _ _ l1 (wrap64 (a2 - 1)) t137 t138 t139 w0 _ ?side1 ?side2 ?side3 ?side4 ?side5 A57.out).mono ?_); (case side1 => repeat (first | (with_reducible first | exact HI0.out | apply IsS86.alloc | apply IsS86.drewN | apply IsS86.drew | apply IsS86.set_1 | apply IsS86.set_2) | exact HI0.out)); (case side2 => repeat (first | (with_reducible first | exact HB.out | apply blA | apply pbN | apply bl1 | refine blS ?_ (IsS86.ge HI0.out)) | exact HB.out)); (case side3 => exact Kd.C_keep (⟨#[]⟩ : ByteArray) HR1.out (by repeat (first | (with_reducible first | exact HK.out | apply KeepBut.set_ | apply keep_drewN | apply keep_drew | apply keep_alloc) | exact HK.out)) hf1); (case side4 => exact HC1.out); (case side5 => exact hf1); rintro e w65 ⟨rfl, hi, hb, hk⟩; refine ⟨_, rfl, ?_⟩; have n0_ := Zs0.mk (KeepBut.trans (by repeat (first | (with_reducible first | exact HK.out | apply KeepBut.set_ | apply keep_drewN | apply keep_drew | apply keep_alloc) | exact HK.out)) hk (.inl rfl)); have n1_ := Zs0.mk (hb); have n2_ := Zs0.mk (hi); clear HK; clear HB; clear HI0; have HK := n0_; have HB := n1_; have HI0 := n2_; clear n0_ n1_ n2_; (try clear hb); (try clear hb2); (try clear hk); (try clear hi)) | ((with_reducible refine gtC (f := 76) rfl ?_); refine goesL_ (some 68) rfl rfl Tryd.func76 (by kernel_rfl) rfl #[.pointer (some ⟨g, 0, none⟩), .slice A1 l1.length c1, .int .i64 (wrap64 (a2 - 1))] rfl (by (try simp only [List.map_toArray, List.map_cons, List.map_nil]); first | done | rfl | (simp only [List.length_drop, List.length_take]; rfl)) ?_; (with_reducible refine (ih kj26 (by have := HJ5.out; have := HJ26.out; omega) g s0_0 t138 t139 _ _ l1 (wrap64 (a2 - 1)) t140 t141 t142 w0 _ ?side1 ?side2 ?side3 ?side4 ?side5 A59.out).mono ?_); (case side1 => repeat (first | (with_reducible first | exact HI0.out | apply IsS86.alloc | apply IsS86.drewN | apply IsS86.drew | apply IsS86.set_1 | apply IsS86.set_2) | exact HI0.out)); (case side2 => repeat (first | (with_reducible first | exact HB.out | apply blA | apply pbN | apply bl1 | refine blS ?_ (IsS86.ge HI0.out)) | exact HB.out)); (case side3 => exact Kd.C_keep (⟨#[]⟩ : ByteArray) HR1.out (by repeat (first | (with_reducible first | exact HK.out | apply KeepBut.set_ | apply keep_drewN | apply keep_drew | apply keep_alloc) | exact HK.out)) hf1); (case side4 => exact HC1.out); (case side5 => exact hf1); rintro e w66 ⟨rfl, hi, hb, hk⟩; refine ⟨_, rfl, ?_⟩; have n0_ := Zs0.mk (KeepBut.trans (by repeat (first | (with_reducible first | exact HK.out | apply KeepBut.set_ | apply keep_drewN | apply keep_drew | apply keep_alloc) | exact HK.out)) hk (.inl rfl)); have n1_ := Zs0.mk (hb); have n2_ := Zs0.mk (hi); clear HK; clear HB; clear HI0; have HK := n0_; have HB := n1_; have HI0 := n2_; clear n0_ n1_ n2_; (try clear hb); (try clear hb2); (try clear hk); (try clear hi)) | ((with_reducible refine gtC (f := 76) rfl ?_); refine goesL_ (some 75) rfl rfl Tryd.func76 (by kernel_rfl) rfl #[.pointer (some ⟨g, 0, none⟩), .slice A1 l1.length c1, .int .i64 (wrap64 (a2 - 1))] rfl (by (try simp only [List.map_toArray, List.map_cons, List.map_nil]); first | done | rfl | (simp only [List.length_drop, List.length_take]; rfl)) ?_; (with_reducible refine (ih kj26 (by have := HJ5.out; have := HJ26.out; omega) g s0_0 t141 t142 _ _ l1 (wrap64 (a2 - 1)) t143 t144 t145 w0 _ ?side1 ?side2 ?side3 ?side4 ?side5 A62.out).mono ?_); (case side1 => repeat (first | (with_reducible first | exact HI0.out | apply IsS86.alloc | apply IsS86.drewN | apply IsS86.drew | apply IsS86.set_1 | apply IsS86.set_2) | exact HI0.out)); (case side2 => repeat (first | (with_reducible first | exact HB.out | apply blA | apply pbN | apply bl1 | refine blS ?_ (IsS86.ge HI0.out)) | exact HB.out)); (case side3 => exact Kd.C_keep (⟨#[]⟩ : ByteArray) HR1.out (by repeat (first | (with_reducible first | exact HK.out | apply KeepBut.set_ | apply keep_drewN | apply keep_drew | apply keep_alloc) | exact HK.out)) hf1); (case side4 => exact HC1.out); (case side5 => exact hf1); rintro e w67 ⟨rfl, hi, hb, hk⟩; refine ⟨_, rfl, ?_⟩; have n0_ := Zs0.mk (KeepBut.trans (by repeat (first | (with_reducible first | exact HK.out | apply KeepBut.set_ | apply keep_drewN | apply keep_drew | apply keep_alloc) | exact HK.out)) hk (.inl rfl)); have n1_ := Zs0.mk (hb); have n2_ := Zs0.mk (hi); clear HK; clear HB; clear HI0; have HK := n0_; have HB := n1_; have HI0 := n2_; clear n0_ n1_ n2_; (try clear hb); (try clear hb2); (try clear hk); (try clear hi)))
                    go_ret
                    exact ⟨by first | rfl | (simp [eWn, eWs] <;> rfl) | (simp [*, eWn, eWs] <;> rfl), by repeat (first | (with_reducible first | exact HI0.out | apply IsS86.alloc | apply IsS86.drewN | apply IsS86.drew | apply IsS86.set_1 | apply IsS86.set_2) | exact HI0.out), by repeat (first | (with_reducible first | exact HB.out | apply blA | apply pbN | apply bl1 | refine blS ?_ (IsS86.ge HI0.out)) | exact HB.out), by repeat (first | (with_reducible first | exact HK.out | apply KeepBut.set_ | apply keep_drewN | apply keep_drew | apply keep_alloc) | exact HK.out)⟩
                  · rw [if_neg c54] at H
                    have c54b0 : decide (0 < a2) = false := decide_eq_false c54
                    clear c54
                    obtain ⟨y146, hy146⟩ : ∃ y_ : List ByteArray, y_ = (([(⟨#[120]⟩ : ByteArray), (⟨#[121]⟩ : ByteArray), (⟨#[122]⟩ : ByteArray), (⟨#[120]⟩ : ByteArray)] : List ByteArray)) := ⟨_, rfl⟩
                    replace H : ((spec_l01Pick.f s0_0 t105 t106 y146).bind fun bt149 => (if bt149.1.size + 3 ≤ 9223372036854775807 then (if (bt149.1 ++ (⟨#[32, 61, 32]⟩ : ByteArray)).size + t101.size ≤ 9223372036854775807 then (if ((bt149.1 ++ (⟨#[32, 61, 32]⟩ : ByteArray)) ++ t101).size + 2 ≤ 9223372036854775807 then (some (((bt149.1 ++ (⟨#[32, 61, 32]⟩ : ByteArray)) ++ t101) ++ (⟨#[59, 10]⟩ : ByteArray), bt149.2.1, bt149.2.2)) else (none)) else (none)) else (none))) = some (r1, r2, r3) := by first | (rw [hy146]; with_reducible exact H) | (have H2_ := (Option.bind_some _ _).symm.trans H; rw [hy146]; with_reducible exact H2_) | (have H2_ := (Option.bind_some _ _).symm.trans H; with_reducible exact H2_) | with_reducible exact H | (rw [hy146]; exact H) | exact H
                    have Ny146 := Zs0.mk hy146
                    clear hy146
                    replace H := Option.bind_eq_some_iff.mp H
                    obtain ⟨⟨t149, t150, t151⟩, A680, H⟩ := H
                    replace H : (if t149.size + 3 ≤ 9223372036854775807 then (if (t149 ++ (⟨#[32, 61, 32]⟩ : ByteArray)).size + t101.size ≤ 9223372036854775807 then (if ((t149 ++ (⟨#[32, 61, 32]⟩ : ByteArray)) ++ t101).size + 2 ≤ 9223372036854775807 then (some (((t149 ++ (⟨#[32, 61, 32]⟩ : ByteArray)) ++ t101) ++ (⟨#[59, 10]⟩ : ByteArray), t150, t151)) else (none)) else (none)) else (none)) = some (r1, r2, r3) := H
                    have A68 := Zs0.mk A680
                    clear A680
                    have c69 := ipos H
                    rw [if_pos c69] at H
                    have c69b0 := eq_true c69
                    have c69b1 := decide_eq_true c69
                    try have c69b2 := eq_false (Nat.not_lt.2 c69)
                    have c70 := ipos H
                    rw [if_pos c70] at H
                    have c70b0 := eq_true c70
                    have c70b1 := decide_eq_true c70
                    try have c70b2 := eq_false (Nat.not_lt.2 c70)
                    have c70n0 : t149.size + 3 + t101.size ≤ 9223372036854775807 := by have h_ := c70; simp only [ByteArray.size_append] at h_; exact h_
                    have c70n1 := eq_true c70n0
                    have c70n2 := eq_false (Nat.not_lt.2 c70n0)
                    have c71 := ipos H
                    rw [if_pos c71] at H
                    have c71b0 := eq_true c71
                    have c71b1 := decide_eq_true c71
                    try have c71b2 := eq_false (Nat.not_lt.2 c71)
                    have c71n0 : t149.size + 3 + t101.size + 2 ≤ 9223372036854775807 := by have h_ := c71; simp only [ByteArray.size_append] at h_; exact h_
                    have c71n1 := eq_true c71n0
                    have c71n2 := eq_false (Nat.not_lt.2 c71n0)
                    simp only [Option.some.injEq, Prod.mk.injEq] at H
                    obtain ⟨rfl, rfl, rfl⟩ := H
                    go_wp2_with (first | ((with_reducible refine gtD (N := 111) rfl ?_); refine Kd.R_lit Kd.string _ 9 ?hg (N := 111) ?hd (xs := ([(⟨#[120]⟩ : ByteArray), (⟨#[121]⟩ : ByteArray), (⟨#[122]⟩ : ByteArray), (⟨#[120]⟩ : ByteArray)] : List ByteArray)) (inner := [.string (⟨#[120]⟩ : ByteArray), .string (⟨#[121]⟩ : ByteArray), .string (⟨#[122]⟩ : ByteArray), .string (⟨#[120]⟩ : ByteArray)]) (ok := fun _ => True) (okp := fun _ => True) ?hr ?hp (fun _ hk => hk) trivial (Below.refl _ _) (Nat.le_refl _) (by simp) ?_; (case hd => rfl); (case hg => rfl); (case hr => first | (go_simp; done) | (go_simp; rfl)); (case hp => exact (Reps.one (show Kd.M Kd.string _ _ _ (⟨#[120]⟩ : ByteArray) [.string (⟨#[120]⟩ : ByteArray)] from rfl) (Reps.one (show Kd.M Kd.string _ _ _ (⟨#[121]⟩ : ByteArray) [.string (⟨#[121]⟩ : ByteArray)] from rfl) (Reps.one (show Kd.M Kd.string _ _ _ (⟨#[122]⟩ : ByteArray) [.string (⟨#[122]⟩ : ByteArray)] from rfl) (Reps.one (show Kd.M Kd.string _ _ _ (⟨#[120]⟩ : ByteArray) [.string (⟨#[120]⟩ : ByteArray)] from rfl) (Reps.none _ _)))))); intro v147 w72 ho73 hb hg_ hnew_; clear hg_ hnew_; (first | rw [← Ny146.out] at ho73 | (simp only [Int.reduceToNat] at ho73; rw [← Ny146.out] at ho73)); have n0_ := Zs0.mk (Kd.R_lower ho73 (keep_size (w := w) (g := g) (row := none) (by repeat (first | (with_reducible first | exact HK.out | apply KeepBut.set_ | apply keep_drewN | apply keep_drew | apply keep_alloc) | exact HK.out)))); have n1_ := Zs0.mk (IsS86.below (by repeat (first | (with_reducible first | exact HI0.out | apply IsS86.alloc | apply IsS86.drewN | apply IsS86.drew | apply IsS86.set_1 | apply IsS86.set_2) | exact HI0.out)) hb); have n2_ := Zs0.mk (KeepBut.trans (by repeat (first | (with_reducible first | exact HK.out | apply KeepBut.set_ | apply keep_drewN | apply keep_drew | apply keep_alloc) | exact HK.out)) (KeepBut.of_below hb g none) (.inl rfl)); have n3_ := Zs0.mk (blT (by repeat (first | (with_reducible first | exact HB.out | apply blA | apply pbN | apply bl1 | refine blS ?_ (IsS86.ge HI0.out)) | exact HB.out)) hb); clear HI0; clear HK; clear HB; have HO148 := n0_; have HI0 := n1_; have HK := n2_; have HB := n3_; clear n0_ n1_ n2_ n3_; clear hb ho73; obtain ⟨Ao74, co74, eo74⟩ := Kd.R_slice HO148.out; subst eo74) | ((with_reducible refine gtC (f := 62) rfl ?_); refine goesL_ (some 112) rfl rfl Tryd.func62 (by kernel_rfl) rfl #[.pointer (some ⟨g, 0, none⟩), .slice Ao74 y146.length co74] rfl (by (try simp only [List.map_toArray, List.map_cons, List.map_nil]); first | done | rfl | (simp only [List.length_drop, List.length_take]; rfl)) ?_; (with_reducible refine (spec_l01Pick.calls g s0_0 t105 t106 _ _ y146 t149 t150 t151 w0 _ ?side1 ?side2 ?side3 ?side4 ?side5 A68.out).mono ?_); (case side1 => repeat (first | (with_reducible first | exact HI0.out | apply IsS86.alloc | apply IsS86.drewN | apply IsS86.drew | apply IsS86.set_1 | apply IsS86.set_2) | exact HI0.out)); (case side2 => repeat (first | (with_reducible first | exact HB.out | apply blA | apply pbN | apply bl1 | refine blS ?_ (IsS86.ge HI0.out)) | exact HB.out)); (case side3 => repeat (first | exact (Kd.R_reads' HO148.out).2.2 | (with_reducible refine Kd.C_alloc ?_ _) | (with_reducible refine Kd.C_drewN ?_ _) | (with_reducible refine Kd.C_drew ?_))); (case side4 => exact (Kd.R_reads' HO148.out).2.1); (case side5 => exact far_slice (IsS86.own_ne HI0.out HO148.out (by decide))); rintro e w75 ⟨rfl, hi, hb, hk⟩; refine ⟨_, rfl, ?_⟩; have n0_ := Zs0.mk (Kd.R_mono (Kd.R_keep (IsS86.apart (show IsS86 w0 _ g s0_0 t105 t106 from by repeat (first | (with_reducible first | exact HI0.out | apply IsS86.alloc | apply IsS86.drewN | apply IsS86.drew | apply IsS86.set_1 | apply IsS86.set_2) | exact HI0.out)) (by (with_reducible repeat (first | apply Kd.R_alloc | apply Kd.R_drewN | apply Kd.R_drew)); exact HO148.out) (by decide)) hk (fun _ h => h.2)) (fun _ h => h.1)); have n1_ := Zs0.mk (KeepBut.trans (by repeat (first | (with_reducible first | exact HK.out | apply KeepBut.set_ | apply keep_drewN | apply keep_drew | apply keep_alloc) | exact HK.out)) hk (.inl rfl)); have n2_ := Zs0.mk (hb); have n3_ := Zs0.mk (hi); clear HO148; clear HK; clear HB; clear HI0; have HO148 := n0_; have HK := n1_; have HB := n2_; have HI0 := n3_; clear n0_ n1_ n2_ n3_; (try clear hb); (try clear hb2); (try clear hk); (try clear hi)))
                    go_ret
                    exact ⟨by first | rfl | (simp [eWn, eWs] <;> rfl) | (simp [*, eWn, eWs] <;> rfl), by repeat (first | (with_reducible first | exact HI0.out | apply IsS86.alloc | apply IsS86.drewN | apply IsS86.drew | apply IsS86.set_1 | apply IsS86.set_2) | exact HI0.out), by repeat (first | (with_reducible first | exact HB.out | apply blA | apply pbN | apply bl1 | refine blS ?_ (IsS86.ge HI0.out)) | exact HB.out), by repeat (first | (with_reducible first | exact HK.out | apply KeepBut.set_ | apply keep_drewN | apply keep_drew | apply keep_alloc) | exact HK.out)⟩
                · rw [if_neg c53] at H
                  have c53b0 : (t104 == 6) = false := beq_eq_false_iff_ne.mpr c53
                  have c53b1 : (t104 != 6) = true := bne_iff_ne.mpr c53
                  by_cases c76 : t104 = 7
                  · rw [if_pos c76] at H
                    have c76b0 : (t104 == 7) = true := beq_iff_eq.mpr c76
                    have c76b1 : (t104 != 7) = false := bne_eq_false_iff_eq.mpr c76
                    clear c76
                    by_cases c77 : a2 > 0
                    · rw [if_pos c77] at H
                      have c77b0 : decide (0 < a2) = true := decide_eq_true c77
                      clear c77
                      obtain ⟨y152, hy152⟩ : ∃ y_ : List ByteArray, y_ = (([(⟨#[50]⟩ : ByteArray), (⟨#[51]⟩ : ByteArray), (⟨#[49]⟩ : ByteArray)] : List ByteArray)) := ⟨_, rfl⟩
                      replace H : ((spec_l01Pick.f s0_0 t105 t106 y152).bind fun bt155 => (if 4 + bt155.1.size ≤ 9223372036854775807 then (if ((⟨#[110, 32, 61, 32]⟩ : ByteArray) ++ bt155.1).size + 23 ≤ 9223372036854775807 then ((spec_l01Stmt.f kj26 s0_0 bt155.2.1 bt155.2.2 l1 0).bind fun bt158 => (if (((⟨#[110, 32, 61, 32]⟩ : ByteArray) ++ bt155.1) ++ (⟨#[59, 10, 119, 104, 105, 108, 101, 32, 110, 32, 123, 10, 110, 32, 61, 32, 110, 32, 45, 32, 49, 59, 10]⟩ : ByteArray)).size + bt158.1.size ≤ 9223372036854775807 then ((spec_l01Stmt.f kj26 s0_0 bt158.2.1 bt158.2.2 l1 0).bind fun bt161 => (if ((((⟨#[110, 32, 61, 32]⟩ : ByteArray) ++ bt155.1) ++ (⟨#[59, 10, 119, 104, 105, 108, 101, 32, 110, 32, 123, 10, 110, 32, 61, 32, 110, 32, 45, 32, 49, 59, 10]⟩ : ByteArray)) ++ bt158.1).size + bt161.1.size ≤ 9223372036854775807 then (if (((((⟨#[110, 32, 61, 32]⟩ : ByteArray) ++ bt155.1) ++ (⟨#[59, 10, 119, 104, 105, 108, 101, 32, 110, 32, 123, 10, 110, 32, 61, 32, 110, 32, 45, 32, 49, 59, 10]⟩ : ByteArray)) ++ bt158.1) ++ bt161.1).size + 2 ≤ 9223372036854775807 then (some ((((((⟨#[110, 32, 61, 32]⟩ : ByteArray) ++ bt155.1) ++ (⟨#[59, 10, 119, 104, 105, 108, 101, 32, 110, 32, 123, 10, 110, 32, 61, 32, 110, 32, 45, 32, 49, 59, 10]⟩ : ByteArray)) ++ bt158.1) ++ bt161.1) ++ (⟨#[125, 10]⟩ : ByteArray), bt161.2.1, bt161.2.2)) else (none)) else (none))) else (none))) else (none)) else (none))) = some (r1, r2, r3) := by first | (rw [hy152]; with_reducible exact H) | (have H2_ := (Option.bind_some _ _).symm.trans H; rw [hy152]; with_reducible exact H2_) | (have H2_ := (Option.bind_some _ _).symm.trans H; with_reducible exact H2_) | with_reducible exact H | (rw [hy152]; exact H) | exact H
                      have Ny152 := Zs0.mk hy152
                      clear hy152
                      replace H := Option.bind_eq_some_iff.mp H
                      obtain ⟨⟨t155, t156, t157⟩, A780, H⟩ := H
                      replace H : (if 4 + t155.size ≤ 9223372036854775807 then (if ((⟨#[110, 32, 61, 32]⟩ : ByteArray) ++ t155).size + 23 ≤ 9223372036854775807 then ((spec_l01Stmt.f kj26 s0_0 t156 t157 l1 0).bind fun bt158 => (if (((⟨#[110, 32, 61, 32]⟩ : ByteArray) ++ t155) ++ (⟨#[59, 10, 119, 104, 105, 108, 101, 32, 110, 32, 123, 10, 110, 32, 61, 32, 110, 32, 45, 32, 49, 59, 10]⟩ : ByteArray)).size + bt158.1.size ≤ 9223372036854775807 then ((spec_l01Stmt.f kj26 s0_0 bt158.2.1 bt158.2.2 l1 0).bind fun bt161 => (if ((((⟨#[110, 32, 61, 32]⟩ : ByteArray) ++ t155) ++ (⟨#[59, 10, 119, 104, 105, 108, 101, 32, 110, 32, 123, 10, 110, 32, 61, 32, 110, 32, 45, 32, 49, 59, 10]⟩ : ByteArray)) ++ bt158.1).size + bt161.1.size ≤ 9223372036854775807 then (if (((((⟨#[110, 32, 61, 32]⟩ : ByteArray) ++ t155) ++ (⟨#[59, 10, 119, 104, 105, 108, 101, 32, 110, 32, 123, 10, 110, 32, 61, 32, 110, 32, 45, 32, 49, 59, 10]⟩ : ByteArray)) ++ bt158.1) ++ bt161.1).size + 2 ≤ 9223372036854775807 then (some ((((((⟨#[110, 32, 61, 32]⟩ : ByteArray) ++ t155) ++ (⟨#[59, 10, 119, 104, 105, 108, 101, 32, 110, 32, 123, 10, 110, 32, 61, 32, 110, 32, 45, 32, 49, 59, 10]⟩ : ByteArray)) ++ bt158.1) ++ bt161.1) ++ (⟨#[125, 10]⟩ : ByteArray), bt161.2.1, bt161.2.2)) else (none)) else (none))) else (none))) else (none)) else (none)) = some (r1, r2, r3) := H
                      have A78 := Zs0.mk A780
                      clear A780
                      have c79 := ipos H
                      rw [if_pos c79] at H
                      have c79b0 := eq_true c79
                      have c79b1 := decide_eq_true c79
                      try have c79b2 := eq_false (Nat.not_lt.2 c79)
                      have c80 := ipos H
                      rw [if_pos c80] at H
                      have c80b0 := eq_true c80
                      have c80b1 := decide_eq_true c80
                      try have c80b2 := eq_false (Nat.not_lt.2 c80)
                      have c80n0 : 4 + t155.size + 23 ≤ 9223372036854775807 := by have h_ := c80; simp only [ByteArray.size_append] at h_; exact h_
                      have c80n1 := eq_true c80n0
                      have c80n2 := eq_false (Nat.not_lt.2 c80n0)
                      replace H := Option.bind_eq_some_iff.mp H
                      obtain ⟨⟨t158, t159, t160⟩, A810, H⟩ := H
                      replace H : (if (((⟨#[110, 32, 61, 32]⟩ : ByteArray) ++ t155) ++ (⟨#[59, 10, 119, 104, 105, 108, 101, 32, 110, 32, 123, 10, 110, 32, 61, 32, 110, 32, 45, 32, 49, 59, 10]⟩ : ByteArray)).size + t158.size ≤ 9223372036854775807 then ((spec_l01Stmt.f kj26 s0_0 t159 t160 l1 0).bind fun bt161 => (if ((((⟨#[110, 32, 61, 32]⟩ : ByteArray) ++ t155) ++ (⟨#[59, 10, 119, 104, 105, 108, 101, 32, 110, 32, 123, 10, 110, 32, 61, 32, 110, 32, 45, 32, 49, 59, 10]⟩ : ByteArray)) ++ t158).size + bt161.1.size ≤ 9223372036854775807 then (if (((((⟨#[110, 32, 61, 32]⟩ : ByteArray) ++ t155) ++ (⟨#[59, 10, 119, 104, 105, 108, 101, 32, 110, 32, 123, 10, 110, 32, 61, 32, 110, 32, 45, 32, 49, 59, 10]⟩ : ByteArray)) ++ t158) ++ bt161.1).size + 2 ≤ 9223372036854775807 then (some ((((((⟨#[110, 32, 61, 32]⟩ : ByteArray) ++ t155) ++ (⟨#[59, 10, 119, 104, 105, 108, 101, 32, 110, 32, 123, 10, 110, 32, 61, 32, 110, 32, 45, 32, 49, 59, 10]⟩ : ByteArray)) ++ t158) ++ bt161.1) ++ (⟨#[125, 10]⟩ : ByteArray), bt161.2.1, bt161.2.2)) else (none)) else (none))) else (none)) = some (r1, r2, r3) := H
                      have A81 := Zs0.mk A810
                      clear A810
                      have c82 := ipos H
                      rw [if_pos c82] at H
                      have c82b0 := eq_true c82
                      have c82b1 := decide_eq_true c82
                      try have c82b2 := eq_false (Nat.not_lt.2 c82)
                      have c82n0 : 4 + t155.size + 23 + t158.size ≤ 9223372036854775807 := by have h_ := c82; simp only [ByteArray.size_append] at h_; exact h_
                      have c82n1 := eq_true c82n0
                      have c82n2 := eq_false (Nat.not_lt.2 c82n0)
                      replace H := Option.bind_eq_some_iff.mp H
                      obtain ⟨⟨t161, t162, t163⟩, A830, H⟩ := H
                      replace H : (if ((((⟨#[110, 32, 61, 32]⟩ : ByteArray) ++ t155) ++ (⟨#[59, 10, 119, 104, 105, 108, 101, 32, 110, 32, 123, 10, 110, 32, 61, 32, 110, 32, 45, 32, 49, 59, 10]⟩ : ByteArray)) ++ t158).size + t161.size ≤ 9223372036854775807 then (if (((((⟨#[110, 32, 61, 32]⟩ : ByteArray) ++ t155) ++ (⟨#[59, 10, 119, 104, 105, 108, 101, 32, 110, 32, 123, 10, 110, 32, 61, 32, 110, 32, 45, 32, 49, 59, 10]⟩ : ByteArray)) ++ t158) ++ t161).size + 2 ≤ 9223372036854775807 then (some ((((((⟨#[110, 32, 61, 32]⟩ : ByteArray) ++ t155) ++ (⟨#[59, 10, 119, 104, 105, 108, 101, 32, 110, 32, 123, 10, 110, 32, 61, 32, 110, 32, 45, 32, 49, 59, 10]⟩ : ByteArray)) ++ t158) ++ t161) ++ (⟨#[125, 10]⟩ : ByteArray), t162, t163)) else (none)) else (none)) = some (r1, r2, r3) := H
                      have A83 := Zs0.mk A830
                      clear A830
                      have c84 := ipos H
                      rw [if_pos c84] at H
                      have c84b0 := eq_true c84
                      have c84b1 := decide_eq_true c84
                      try have c84b2 := eq_false (Nat.not_lt.2 c84)
                      have c84n0 : 4 + t155.size + 23 + t158.size + t161.size ≤ 9223372036854775807 := by have h_ := c84; simp only [ByteArray.size_append] at h_; exact h_
                      have c84n1 := eq_true c84n0
                      have c84n2 := eq_false (Nat.not_lt.2 c84n0)
                      have c85 := ipos H
                      rw [if_pos c85] at H
                      have c85b0 := eq_true c85
                      have c85b1 := decide_eq_true c85
                      try have c85b2 := eq_false (Nat.not_lt.2 c85)
                      have c85n0 : 4 + t155.size + 23 + t158.size + t161.size + 2 ≤ 9223372036854775807 := by have h_ := c85; simp only [ByteArray.size_append] at h_; exact h_
                      have c85n1 := eq_true c85n0
                      have c85n2 := eq_false (Nat.not_lt.2 c85n0)
                      simp only [Option.some.injEq, Prod.mk.injEq] at H
                      obtain ⟨rfl, rfl, rfl⟩ := H
                      go_wp2_with (first | ((with_reducible refine gtD (N := 83) rfl ?_); refine Kd.R_lit Kd.string _ 9 ?hg (N := 83) ?hd (xs := ([(⟨#[50]⟩ : ByteArray), (⟨#[51]⟩ : ByteArray), (⟨#[49]⟩ : ByteArray)] : List ByteArray)) (inner := [.string (⟨#[50]⟩ : ByteArray), .string (⟨#[51]⟩ : ByteArray), .string (⟨#[49]⟩ : ByteArray)]) (ok := fun _ => True) (okp := fun _ => True) ?hr ?hp (fun _ hk => hk) trivial (Below.refl _ _) (Nat.le_refl _) (by simp) ?_; (case hd => rfl); (case hg => rfl); (case hr => first | (go_simp; done) | (go_simp; rfl)); (case hp => exact (Reps.one (show Kd.M Kd.string _ _ _ (⟨#[50]⟩ : ByteArray) [.string (⟨#[50]⟩ : ByteArray)] from rfl) (Reps.one (show Kd.M Kd.string _ _ _ (⟨#[51]⟩ : ByteArray) [.string (⟨#[51]⟩ : ByteArray)] from rfl) (Reps.one (show Kd.M Kd.string _ _ _ (⟨#[49]⟩ : ByteArray) [.string (⟨#[49]⟩ : ByteArray)] from rfl) (Reps.none _ _))))); intro v153 w86 ho87 hb hg_ hnew_; clear hg_ hnew_; (first | rw [← Ny152.out] at ho87 | (simp only [Int.reduceToNat] at ho87; rw [← Ny152.out] at ho87)); have n0_ := Zs0.mk (Kd.R_lower ho87 (keep_size (w := w) (g := g) (row := none) (by repeat (first | (with_reducible first | exact HK.out | apply KeepBut.set_ | apply keep_drewN | apply keep_drew | apply keep_alloc) | exact HK.out)))); have n1_ := Zs0.mk (IsS86.below (by repeat (first | (with_reducible first | exact HI0.out | apply IsS86.alloc | apply IsS86.drewN | apply IsS86.drew | apply IsS86.set_1 | apply IsS86.set_2) | exact HI0.out)) hb); have n2_ := Zs0.mk (KeepBut.trans (by repeat (first | (with_reducible first | exact HK.out | apply KeepBut.set_ | apply keep_drewN | apply keep_drew | apply keep_alloc) | exact HK.out)) (KeepBut.of_below hb g none) (.inl rfl)); have n3_ := Zs0.mk (blT (by repeat (first | (with_reducible first | exact HB.out | apply blA | apply pbN | apply bl1 | refine blS ?_ (IsS86.ge HI0.out)) | exact HB.out)) hb); clear HI0; clear HK; clear HB; have HO154 := n0_; have HI0 := n1_; have HK := n2_; have HB := n3_; clear n0_ n1_ n2_ n3_; clear hb ho87; obtain ⟨Ao88, co88, eo88⟩ := Kd.R_slice HO154.out; subst eo88) | ((with_reducible refine gtC (f := 62) rfl ?_); refine goesL_ (some 84) rfl rfl Tryd.func62 (by kernel_rfl) rfl #[.pointer (some ⟨g, 0, none⟩), .slice Ao88 y152.length co88] rfl (by (try simp only [List.map_toArray, List.map_cons, List.map_nil]); first | done | rfl | (simp only [List.length_drop, List.length_take]; rfl)) ?_; (with_reducible refine (spec_l01Pick.calls g s0_0 t105 t106 _ _ y152 t155 t156 t157 w0 _ ?side1 ?side2 ?side3 ?side4 ?side5 A78.out).mono ?_); (case side1 => repeat (first | (with_reducible first | exact HI0.out | apply IsS86.alloc | apply IsS86.drewN | apply IsS86.drew | apply IsS86.set_1 | apply IsS86.set_2) | exact HI0.out)); (case side2 => repeat (first | (with_reducible first | exact HB.out | apply blA | apply pbN | apply bl1 | refine blS ?_ (IsS86.ge HI0.out)) | exact HB.out)); (case side3 => repeat (first | exact (Kd.R_reads' HO154.out).2.2 | (with_reducible refine Kd.C_alloc ?_ _) | (with_reducible refine Kd.C_drewN ?_ _) | (with_reducible refine Kd.C_drew ?_))); (case side4 => exact (Kd.R_reads' HO154.out).2.1); (case side5 => exact far_slice (IsS86.own_ne HI0.out HO154.out (by decide))); rintro e w89 ⟨rfl, hi, hb, hk⟩; refine ⟨_, rfl, ?_⟩; have n0_ := Zs0.mk (Kd.R_mono (Kd.R_keep (IsS86.apart (show IsS86 w0 _ g s0_0 t105 t106 from by repeat (first | (with_reducible first | exact HI0.out | apply IsS86.alloc | apply IsS86.drewN | apply IsS86.drew | apply IsS86.set_1 | apply IsS86.set_2) | exact HI0.out)) (by (with_reducible repeat (first | apply Kd.R_alloc | apply Kd.R_drewN | apply Kd.R_drew)); exact HO154.out) (by decide)) hk (fun _ h => h.2)) (fun _ h => h.1)); have n1_ := Zs0.mk (KeepBut.trans (by repeat (first | (with_reducible first | exact HK.out | apply KeepBut.set_ | apply keep_drewN | apply keep_drew | apply keep_alloc) | exact HK.out)) hk (.inl rfl)); have n2_ := Zs0.mk (hb); have n3_ := Zs0.mk (hi); clear HO154; clear HK; clear HB; clear HI0; have HO154 := n0_; have HK := n1_; have HB := n2_; have HI0 := n3_; clear n0_ n1_ n2_ n3_; (try clear hb); (try clear hb2); (try clear hk); (try clear hi)) | ((with_reducible refine gtC (f := 76) rfl ?_); refine goesL_ (some 89) rfl rfl Tryd.func76 (by kernel_rfl) rfl #[.pointer (some ⟨g, 0, none⟩), .slice A1 l1.length c1, .int .i64 0] rfl (by (try simp only [List.map_toArray, List.map_cons, List.map_nil]); first | done | rfl | (simp only [List.length_drop, List.length_take]; rfl)) ?_; (with_reducible refine (ih kj26 (by have := HJ5.out; have := HJ26.out; omega) g s0_0 t156 t157 _ _ l1 0 t158 t159 t160 w0 _ ?side1 ?side2 ?side3 ?side4 ?side5 A81.out).mono ?_); (case side1 => repeat (first | (with_reducible first | exact HI0.out | apply IsS86.alloc | apply IsS86.drewN | apply IsS86.drew | apply IsS86.set_1 | apply IsS86.set_2) | exact HI0.out)); (case side2 => repeat (first | (with_reducible first | exact HB.out | apply blA | apply pbN | apply bl1 | refine blS ?_ (IsS86.ge HI0.out)) | exact HB.out)); (case side3 => exact Kd.C_keep (⟨#[]⟩ : ByteArray) HR1.out (by repeat (first | (with_reducible first | exact HK.out | apply KeepBut.set_ | apply keep_drewN | apply keep_drew | apply keep_alloc) | exact HK.out)) hf1); (case side4 => exact HC1.out); (case side5 => exact hf1); rintro e w90 ⟨rfl, hi, hb, hk⟩; refine ⟨_, rfl, ?_⟩; have n0_ := Zs0.mk (Kd.R_mono (Kd.R_keep (IsS86.apart (show IsS86 w0 _ g s0_0 t156 t157 from by repeat (first | (with_reducible first | exact HI0.out | apply IsS86.alloc | apply IsS86.drewN | apply IsS86.drew | apply IsS86.set_1 | apply IsS86.set_2) | exact HI0.out)) (by (with_reducible repeat (first | apply Kd.R_alloc | apply Kd.R_drewN | apply Kd.R_drew)); exact HO154.out) (by decide)) hk (fun _ h => h.2)) (fun _ h => h.1)); have n1_ := Zs0.mk (KeepBut.trans (by repeat (first | (with_reducible first | exact HK.out | apply KeepBut.set_ | apply keep_drewN | apply keep_drew | apply keep_alloc) | exact HK.out)) hk (.inl rfl)); have n2_ := Zs0.mk (hb); have n3_ := Zs0.mk (hi); clear HO154; clear HK; clear HB; clear HI0; have HO154 := n0_; have HK := n1_; have HB := n2_; have HI0 := n3_; clear n0_ n1_ n2_ n3_; (try clear hb); (try clear hb2); (try clear hk); (try clear hi)) | ((with_reducible refine gtC (f := 76) rfl ?_); refine goesL_ (some 93) rfl rfl Tryd.func76 (by kernel_rfl) rfl #[.pointer (some ⟨g, 0, none⟩), .slice A1 l1.length c1, .int .i64 0] rfl (by (try simp only [List.map_toArray, List.map_cons, List.map_nil]); first | done | rfl | (simp only [List.length_drop, List.length_take]; rfl)) ?_; (with_reducible refine (ih kj26 (by have := HJ5.out; have := HJ26.out; omega) g s0_0 t159 t160 _ _ l1 0 t161 t162 t163 w0 _ ?side1 ?side2 ?side3 ?side4 ?side5 A83.out).mono ?_); (case side1 => repeat (first | (with_reducible first | exact HI0.out | apply IsS86.alloc | apply IsS86.drewN | apply IsS86.drew | apply IsS86.set_1 | apply IsS86.set_2) | exact HI0.out)); (case side2 => repeat (first | (with_reducible first | exact HB.out | apply blA | apply pbN | apply bl1 | refine blS ?_ (IsS86.ge HI0.out)) | exact HB.out)); (case side3 => exact Kd.C_keep (⟨#[]⟩ : ByteArray) HR1.out (by repeat (first | (with_reducible first | exact HK.out | apply KeepBut.set_ | apply keep_drewN | apply keep_drew | apply keep_alloc) | exact HK.out)) hf1); (case side4 => exact HC1.out); (case side5 => exact hf1); rintro e w91 ⟨rfl, hi, hb, hk⟩; refine ⟨_, rfl, ?_⟩; have n0_ := Zs0.mk (Kd.R_mono (Kd.R_keep (IsS86.apart (show IsS86 w0 _ g s0_0 t159 t160 from by repeat (first | (with_reducible first | exact HI0.out | apply IsS86.alloc | apply IsS86.drewN | apply IsS86.drew | apply IsS86.set_1 | apply IsS86.set_2) | exact HI0.out)) (by (with_reducible repeat (first | apply Kd.R_alloc | apply Kd.R_drewN | apply Kd.R_drew)); exact HO154.out) (by decide)) hk (fun _ h => h.2)) (fun _ h => h.1)); have n1_ := Zs0.mk (KeepBut.trans (by repeat (first | (with_reducible first | exact HK.out | apply KeepBut.set_ | apply keep_drewN | apply keep_drew | apply keep_alloc) | exact HK.out)) hk (.inl rfl)); have n2_ := Zs0.mk (hb); have n3_ := Zs0.mk (hi); clear HO154; clear HK; clear HB; clear HI0; have HO154 := n0_; have HK := n1_; have HB := n2_; have HI0 := n3_; clear n0_ n1_ n2_ n3_; (try clear hb); (try clear hb2); (try clear hk); (try clear hi)))
                      go_ret
                      exact ⟨by first | rfl | (simp [eWn, eWs] <;> rfl) | (simp [*, eWn, eWs] <;> rfl), by repeat (first | (with_reducible first | exact HI0.out | apply IsS86.alloc | apply IsS86.drewN | apply IsS86.drew | apply IsS86.set_1 | apply IsS86.set_2) | exact HI0.out), by repeat (first | (with_reducible first | exact HB.out | apply blA | apply pbN | apply bl1 | refine blS ?_ (IsS86.ge HI0.out)) | exact HB.out), by repeat (first | (with_reducible first | exact HK.out | apply KeepBut.set_ | apply keep_drewN | apply keep_drew | apply keep_alloc) | exact HK.out)⟩
                    · rw [if_neg c77] at H
                      have c77b0 : decide (0 < a2) = false := decide_eq_false c77
                      clear c77
                      obtain ⟨y164, hy164⟩ : ∃ y_ : List ByteArray, y_ = (([(⟨#[120]⟩ : ByteArray), (⟨#[121]⟩ : ByteArray), (⟨#[122]⟩ : ByteArray), (⟨#[120]⟩ : ByteArray)] : List ByteArray)) := ⟨_, rfl⟩
                      replace H : ((spec_l01Pick.f s0_0 t105 t106 y164).bind fun bt167 => (if bt167.1.size + 3 ≤ 9223372036854775807 then (if (bt167.1 ++ (⟨#[32, 61, 32]⟩ : ByteArray)).size + t101.size ≤ 9223372036854775807 then (if ((bt167.1 ++ (⟨#[32, 61, 32]⟩ : ByteArray)) ++ t101).size + 2 ≤ 9223372036854775807 then (some (((bt167.1 ++ (⟨#[32, 61, 32]⟩ : ByteArray)) ++ t101) ++ (⟨#[59, 10]⟩ : ByteArray), bt167.2.1, bt167.2.2)) else (none)) else (none)) else (none))) = some (r1, r2, r3) := by first | (rw [hy164]; with_reducible exact H) | (have H2_ := (Option.bind_some _ _).symm.trans H; rw [hy164]; with_reducible exact H2_) | (have H2_ := (Option.bind_some _ _).symm.trans H; with_reducible exact H2_) | with_reducible exact H | (rw [hy164]; exact H) | exact H
                      have Ny164 := Zs0.mk hy164
                      clear hy164
                      replace H := Option.bind_eq_some_iff.mp H
                      obtain ⟨⟨t167, t168, t169⟩, A920, H⟩ := H
                      replace H : (if t167.size + 3 ≤ 9223372036854775807 then (if (t167 ++ (⟨#[32, 61, 32]⟩ : ByteArray)).size + t101.size ≤ 9223372036854775807 then (if ((t167 ++ (⟨#[32, 61, 32]⟩ : ByteArray)) ++ t101).size + 2 ≤ 9223372036854775807 then (some (((t167 ++ (⟨#[32, 61, 32]⟩ : ByteArray)) ++ t101) ++ (⟨#[59, 10]⟩ : ByteArray), t168, t169)) else (none)) else (none)) else (none)) = some (r1, r2, r3) := H
                      have A92 := Zs0.mk A920
                      clear A920
                      have c93 := ipos H
                      rw [if_pos c93] at H
                      have c93b0 := eq_true c93
                      have c93b1 := decide_eq_true c93
                      try have c93b2 := eq_false (Nat.not_lt.2 c93)
                      have c94 := ipos H
                      rw [if_pos c94] at H
                      have c94b0 := eq_true c94
                      have c94b1 := decide_eq_true c94
                      try have c94b2 := eq_false (Nat.not_lt.2 c94)
                      have c94n0 : t167.size + 3 + t101.size ≤ 9223372036854775807 := by have h_ := c94; simp only [ByteArray.size_append] at h_; exact h_
                      have c94n1 := eq_true c94n0
                      have c94n2 := eq_false (Nat.not_lt.2 c94n0)
                      have c95 := ipos H
                      rw [if_pos c95] at H
                      have c95b0 := eq_true c95
                      have c95b1 := decide_eq_true c95
                      try have c95b2 := eq_false (Nat.not_lt.2 c95)
                      have c95n0 : t167.size + 3 + t101.size + 2 ≤ 9223372036854775807 := by have h_ := c95; simp only [ByteArray.size_append] at h_; exact h_
                      have c95n1 := eq_true c95n0
                      have c95n2 := eq_false (Nat.not_lt.2 c95n0)
                      simp only [Option.some.injEq, Prod.mk.injEq] at H
                      obtain ⟨rfl, rfl, rfl⟩ := H
                      go_wp2_with (first | ((with_reducible refine gtD (N := 111) rfl ?_); refine Kd.R_lit Kd.string _ 9 ?hg (N := 111) ?hd (xs := ([(⟨#[120]⟩ : ByteArray), (⟨#[121]⟩ : ByteArray), (⟨#[122]⟩ : ByteArray), (⟨#[120]⟩ : ByteArray)] : List ByteArray)) (inner := [.string (⟨#[120]⟩ : ByteArray), .string (⟨#[121]⟩ : ByteArray), .string (⟨#[122]⟩ : ByteArray), .string (⟨#[120]⟩ : ByteArray)]) (ok := fun _ => True) (okp := fun _ => True) ?hr ?hp (fun _ hk => hk) trivial (Below.refl _ _) (Nat.le_refl _) (by simp) ?_; (case hd => rfl); (case hg => rfl); (case hr => first | (go_simp; done) | (go_simp; rfl)); (case hp => exact (Reps.one (show Kd.M Kd.string _ _ _ (⟨#[120]⟩ : ByteArray) [.string (⟨#[120]⟩ : ByteArray)] from rfl) (Reps.one (show Kd.M Kd.string _ _ _ (⟨#[121]⟩ : ByteArray) [.string (⟨#[121]⟩ : ByteArray)] from rfl) (Reps.one (show Kd.M Kd.string _ _ _ (⟨#[122]⟩ : ByteArray) [.string (⟨#[122]⟩ : ByteArray)] from rfl) (Reps.one (show Kd.M Kd.string _ _ _ (⟨#[120]⟩ : ByteArray) [.string (⟨#[120]⟩ : ByteArray)] from rfl) (Reps.none _ _)))))); intro v165 w96 ho97 hb hg_ hnew_; clear hg_ hnew_; (first | rw [← Ny164.out] at ho97 | (simp only [Int.reduceToNat] at ho97; rw [← Ny164.out] at ho97)); have n0_ := Zs0.mk (Kd.R_lower ho97 (keep_size (w := w) (g := g) (row := none) (by repeat (first | (with_reducible first | exact HK.out | apply KeepBut.set_ | apply keep_drewN | apply keep_drew | apply keep_alloc) | exact HK.out)))); have n1_ := Zs0.mk (IsS86.below (by repeat (first | (with_reducible first | exact HI0.out | apply IsS86.alloc | apply IsS86.drewN | apply IsS86.drew | apply IsS86.set_1 | apply IsS86.set_2) | exact HI0.out)) hb); have n2_ := Zs0.mk (KeepBut.trans (by repeat (first | (with_reducible first | exact HK.out | apply KeepBut.set_ | apply keep_drewN | apply keep_drew | apply keep_alloc) | exact HK.out)) (KeepBut.of_below hb g none) (.inl rfl)); have n3_ := Zs0.mk (blT (by repeat (first | (with_reducible first | exact HB.out | apply blA | apply pbN | apply bl1 | refine blS ?_ (IsS86.ge HI0.out)) | exact HB.out)) hb); clear HI0; clear HK; clear HB; have HO166 := n0_; have HI0 := n1_; have HK := n2_; have HB := n3_; clear n0_ n1_ n2_ n3_; clear hb ho97; obtain ⟨Ao98, co98, eo98⟩ := Kd.R_slice HO166.out; subst eo98) | ((with_reducible refine gtC (f := 62) rfl ?_); refine goesL_ (some 112) rfl rfl Tryd.func62 (by kernel_rfl) rfl #[.pointer (some ⟨g, 0, none⟩), .slice Ao98 y164.length co98] rfl (by (try simp only [List.map_toArray, List.map_cons, List.map_nil]); first | done | rfl | (simp only [List.length_drop, List.length_take]; rfl)) ?_; (with_reducible refine (spec_l01Pick.calls g s0_0 t105 t106 _ _ y164 t167 t168 t169 w0 _ ?side1 ?side2 ?side3 ?side4 ?side5 A92.out).mono ?_); (case side1 => repeat (first | (with_reducible first | exact HI0.out | apply IsS86.alloc | apply IsS86.drewN | apply IsS86.drew | apply IsS86.set_1 | apply IsS86.set_2) | exact HI0.out)); (case side2 => repeat (first | (with_reducible first | exact HB.out | apply blA | apply pbN | apply bl1 | refine blS ?_ (IsS86.ge HI0.out)) | exact HB.out)); (case side3 => repeat (first | exact (Kd.R_reads' HO166.out).2.2 | (with_reducible refine Kd.C_alloc ?_ _) | (with_reducible refine Kd.C_drewN ?_ _) | (with_reducible refine Kd.C_drew ?_))); (case side4 => exact (Kd.R_reads' HO166.out).2.1); (case side5 => exact far_slice (IsS86.own_ne HI0.out HO166.out (by decide))); rintro e w99 ⟨rfl, hi, hb, hk⟩; refine ⟨_, rfl, ?_⟩; have n0_ := Zs0.mk (Kd.R_mono (Kd.R_keep (IsS86.apart (show IsS86 w0 _ g s0_0 t105 t106 from by repeat (first | (with_reducible first | exact HI0.out | apply IsS86.alloc | apply IsS86.drewN | apply IsS86.drew | apply IsS86.set_1 | apply IsS86.set_2) | exact HI0.out)) (by (with_reducible repeat (first | apply Kd.R_alloc | apply Kd.R_drewN | apply Kd.R_drew)); exact HO166.out) (by decide)) hk (fun _ h => h.2)) (fun _ h => h.1)); have n1_ := Zs0.mk (KeepBut.trans (by repeat (first | (with_reducible first | exact HK.out | apply KeepBut.set_ | apply keep_drewN | apply keep_drew | apply keep_alloc) | exact HK.out)) hk (.inl rfl)); have n2_ := Zs0.mk (hb); have n3_ := Zs0.mk (hi); clear HO166; clear HK; clear HB; clear HI0; have HO166 := n0_; have HK := n1_; have HB := n2_; have HI0 := n3_; clear n0_ n1_ n2_ n3_; (try clear hb); (try clear hb2); (try clear hk); (try clear hi)))
                      go_ret
                      exact ⟨by first | rfl | (simp [eWn, eWs] <;> rfl) | (simp [*, eWn, eWs] <;> rfl), by repeat (first | (with_reducible first | exact HI0.out | apply IsS86.alloc | apply IsS86.drewN | apply IsS86.drew | apply IsS86.set_1 | apply IsS86.set_2) | exact HI0.out), by repeat (first | (with_reducible first | exact HB.out | apply blA | apply pbN | apply bl1 | refine blS ?_ (IsS86.ge HI0.out)) | exact HB.out), by repeat (first | (with_reducible first | exact HK.out | apply KeepBut.set_ | apply keep_drewN | apply keep_drew | apply keep_alloc) | exact HK.out)⟩
                  · rw [if_neg c76] at H
                    have c76b0 : (t104 == 7) = false := beq_eq_false_iff_ne.mpr c76
                    have c76b1 : (t104 != 7) = true := bne_iff_ne.mpr c76
                    by_cases c100 : t104 = 8
                    · rw [if_pos c100] at H
                      have c100b0 : (t104 == 8) = true := beq_iff_eq.mpr c100
                      have c100b1 : (t104 != 8) = false := bne_eq_false_iff_eq.mpr c100
                      clear c100
                      obtain ⟨y170, hy170⟩ : ∃ y_ : List ByteArray, y_ = (([(⟨#[48]⟩ : ByteArray), (⟨#[49]⟩ : ByteArray), (⟨#[120, 32, 38, 32, 51]⟩ : ByteArray), (⟨#[112, 32, 43, 32, 49]⟩ : ByteArray), (⟨#[50]⟩ : ByteArray)] : List ByteArray)) := ⟨_, rfl⟩
                      replace H : ((spec_l01Pick.f s0_0 t105 t106 y170).bind fun bt173 => (if 4 + bt173.1.size ≤ 9223372036854775807 then (if ((⟨#[112, 32, 61, 32]⟩ : ByteArray) ++ bt173.1).size + 2 ≤ 9223372036854775807 then (some (((⟨#[112, 32, 61, 32]⟩ : ByteArray) ++ bt173.1) ++ (⟨#[59, 10]⟩ : ByteArray), bt173.2.1, bt173.2.2)) else (none)) else (none))) = some (r1, r2, r3) := by first | (rw [hy170]; with_reducible exact H) | (have H2_ := (Option.bind_some _ _).symm.trans H; rw [hy170]; with_reducible exact H2_) | (have H2_ := (Option.bind_some _ _).symm.trans H; with_reducible exact H2_) | with_reducible exact H | (rw [hy170]; exact H) | exact H
                      have Ny170 := Zs0.mk hy170
                      clear hy170
                      replace H := Option.bind_eq_some_iff.mp H
                      obtain ⟨⟨t173, t174, t175⟩, A1010, H⟩ := H
                      replace H : (if 4 + t173.size ≤ 9223372036854775807 then (if ((⟨#[112, 32, 61, 32]⟩ : ByteArray) ++ t173).size + 2 ≤ 9223372036854775807 then (some (((⟨#[112, 32, 61, 32]⟩ : ByteArray) ++ t173) ++ (⟨#[59, 10]⟩ : ByteArray), t174, t175)) else (none)) else (none)) = some (r1, r2, r3) := H
                      have A101 := Zs0.mk A1010
                      clear A1010
                      have c102 := ipos H
                      rw [if_pos c102] at H
                      have c102b0 := eq_true c102
                      have c102b1 := decide_eq_true c102
                      try have c102b2 := eq_false (Nat.not_lt.2 c102)
                      have c103 := ipos H
                      rw [if_pos c103] at H
                      have c103b0 := eq_true c103
                      have c103b1 := decide_eq_true c103
                      try have c103b2 := eq_false (Nat.not_lt.2 c103)
                      have c103n0 : 4 + t173.size + 2 ≤ 9223372036854775807 := by have h_ := c103; simp only [ByteArray.size_append] at h_; exact h_
                      have c103n1 := eq_true c103n0
                      have c103n2 := eq_false (Nat.not_lt.2 c103n0)
                      simp only [Option.some.injEq, Prod.mk.injEq] at H
                      obtain ⟨rfl, rfl, rfl⟩ := H
                      go_wp2_with (first | ((with_reducible refine gtD (N := 99) rfl ?_); refine Kd.R_lit Kd.string _ 9 ?hg (N := 99) ?hd (xs := ([(⟨#[48]⟩ : ByteArray), (⟨#[49]⟩ : ByteArray), (⟨#[120, 32, 38, 32, 51]⟩ : ByteArray), (⟨#[112, 32, 43, 32, 49]⟩ : ByteArray), (⟨#[50]⟩ : ByteArray)] : List ByteArray)) (inner := [.string (⟨#[48]⟩ : ByteArray), .string (⟨#[49]⟩ : ByteArray), .string (⟨#[120, 32, 38, 32, 51]⟩ : ByteArray), .string (⟨#[112, 32, 43, 32, 49]⟩ : ByteArray), .string (⟨#[50]⟩ : ByteArray)]) (ok := fun _ => True) (okp := fun _ => True) ?hr ?hp (fun _ hk => hk) trivial (Below.refl _ _) (Nat.le_refl _) (by simp) ?_; (case hd => rfl); (case hg => rfl); (case hr => first | (go_simp; done) | (go_simp; rfl)); (case hp => exact (Reps.one (show Kd.M Kd.string _ _ _ (⟨#[48]⟩ : ByteArray) [.string (⟨#[48]⟩ : ByteArray)] from rfl) (Reps.one (show Kd.M Kd.string _ _ _ (⟨#[49]⟩ : ByteArray) [.string (⟨#[49]⟩ : ByteArray)] from rfl) (Reps.one (show Kd.M Kd.string _ _ _ (⟨#[120, 32, 38, 32, 51]⟩ : ByteArray) [.string (⟨#[120, 32, 38, 32, 51]⟩ : ByteArray)] from rfl) (Reps.one (show Kd.M Kd.string _ _ _ (⟨#[112, 32, 43, 32, 49]⟩ : ByteArray) [.string (⟨#[112, 32, 43, 32, 49]⟩ : ByteArray)] from rfl) (Reps.one (show Kd.M Kd.string _ _ _ (⟨#[50]⟩ : ByteArray) [.string (⟨#[50]⟩ : ByteArray)] from rfl) (Reps.none _ _))))))); intro v171 w104 ho105 hb hg_ hnew_; clear hg_ hnew_; (first | rw [← Ny170.out] at ho105 | (simp only [Int.reduceToNat] at ho105; rw [← Ny170.out] at ho105)); have n0_ := Zs0.mk (Kd.R_lower ho105 (keep_size (w := w) (g := g) (row := none) (by repeat (first | (with_reducible first | exact HK.out | apply KeepBut.set_ | apply keep_drewN | apply keep_drew | apply keep_alloc) | exact HK.out)))); have n1_ := Zs0.mk (IsS86.below (by repeat (first | (with_reducible first | exact HI0.out | apply IsS86.alloc | apply IsS86.drewN | apply IsS86.drew | apply IsS86.set_1 | apply IsS86.set_2) | exact HI0.out)) hb); have n2_ := Zs0.mk (KeepBut.trans (by repeat (first | (with_reducible first | exact HK.out | apply KeepBut.set_ | apply keep_drewN | apply keep_drew | apply keep_alloc) | exact HK.out)) (KeepBut.of_below hb g none) (.inl rfl)); have n3_ := Zs0.mk (blT (by repeat (first | (with_reducible first | exact HB.out | apply blA | apply pbN | apply bl1 | refine blS ?_ (IsS86.ge HI0.out)) | exact HB.out)) hb); clear HI0; clear HK; clear HB; have HO172 := n0_; have HI0 := n1_; have HK := n2_; have HB := n3_; clear n0_ n1_ n2_ n3_; clear hb ho105; obtain ⟨Ao106, co106, eo106⟩ := Kd.R_slice HO172.out; subst eo106) | ((with_reducible refine gtC (f := 62) rfl ?_); refine goesL_ (some 100) rfl rfl Tryd.func62 (by kernel_rfl) rfl #[.pointer (some ⟨g, 0, none⟩), .slice Ao106 y170.length co106] rfl (by (try simp only [List.map_toArray, List.map_cons, List.map_nil]); first | done | rfl | (simp only [List.length_drop, List.length_take]; rfl)) ?_; (with_reducible refine (spec_l01Pick.calls g s0_0 t105 t106 _ _ y170 t173 t174 t175 w0 _ ?side1 ?side2 ?side3 ?side4 ?side5 A101.out).mono ?_); (case side1 => repeat (first | (with_reducible first | exact HI0.out | apply IsS86.alloc | apply IsS86.drewN | apply IsS86.drew | apply IsS86.set_1 | apply IsS86.set_2) | exact HI0.out)); (case side2 => repeat (first | (with_reducible first | exact HB.out | apply blA | apply pbN | apply bl1 | refine blS ?_ (IsS86.ge HI0.out)) | exact HB.out)); (case side3 => repeat (first | exact (Kd.R_reads' HO172.out).2.2 | (with_reducible refine Kd.C_alloc ?_ _) | (with_reducible refine Kd.C_drewN ?_ _) | (with_reducible refine Kd.C_drew ?_))); (case side4 => exact (Kd.R_reads' HO172.out).2.1); (case side5 => exact far_slice (IsS86.own_ne HI0.out HO172.out (by decide))); rintro e w107 ⟨rfl, hi, hb, hk⟩; refine ⟨_, rfl, ?_⟩; have n0_ := Zs0.mk (Kd.R_mono (Kd.R_keep (IsS86.apart (show IsS86 w0 _ g s0_0 t105 t106 from by repeat (first | (with_reducible first | exact HI0.out | apply IsS86.alloc | apply IsS86.drewN | apply IsS86.drew | apply IsS86.set_1 | apply IsS86.set_2) | exact HI0.out)) (by (with_reducible repeat (first | apply Kd.R_alloc | apply Kd.R_drewN | apply Kd.R_drew)); exact HO172.out) (by decide)) hk (fun _ h => h.2)) (fun _ h => h.1)); have n1_ := Zs0.mk (KeepBut.trans (by repeat (first | (with_reducible first | exact HK.out | apply KeepBut.set_ | apply keep_drewN | apply keep_drew | apply keep_alloc) | exact HK.out)) hk (.inl rfl)); have n2_ := Zs0.mk (hb); have n3_ := Zs0.mk (hi); clear HO172; clear HK; clear HB; clear HI0; have HO172 := n0_; have HK := n1_; have HB := n2_; have HI0 := n3_; clear n0_ n1_ n2_ n3_; (try clear hb); (try clear hb2); (try clear hk); (try clear hi)))
                      go_ret
                      exact ⟨by first | rfl | (simp [eWn, eWs] <;> rfl) | (simp [*, eWn, eWs] <;> rfl), by repeat (first | (with_reducible first | exact HI0.out | apply IsS86.alloc | apply IsS86.drewN | apply IsS86.drew | apply IsS86.set_1 | apply IsS86.set_2) | exact HI0.out), by repeat (first | (with_reducible first | exact HB.out | apply blA | apply pbN | apply bl1 | refine blS ?_ (IsS86.ge HI0.out)) | exact HB.out), by repeat (first | (with_reducible first | exact HK.out | apply KeepBut.set_ | apply keep_drewN | apply keep_drew | apply keep_alloc) | exact HK.out)⟩
                    · rw [if_neg c100] at H
                      have c100b0 : (t104 == 8) = false := beq_eq_false_iff_ne.mpr c100
                      have c100b1 : (t104 != 8) = true := bne_iff_ne.mpr c100
                      by_cases c108 : t104 = 9
                      · rw [if_pos c108] at H
                        have c108b0 : (t104 == 9) = true := beq_iff_eq.mpr c108
                        have c108b1 : (t104 != 9) = false := bne_eq_false_iff_eq.mpr c108
                        clear c108
                        replace H := Option.bind_eq_some_iff.mp H
                        obtain ⟨⟨t176, t177, t178⟩, A1090, H⟩ := H
                        replace H : (if t176 = true then (if 7 + t101.size ≤ 9223372036854775807 then (if ((⟨#[114, 101, 116, 117, 114, 110, 32]⟩ : ByteArray) ++ t101).size + 2 ≤ 9223372036854775807 then (some (((⟨#[114, 101, 116, 117, 114, 110, 32]⟩ : ByteArray) ++ t101) ++ (⟨#[59, 10]⟩ : ByteArray), t177, t178)) else (none)) else (none)) else ((spec_l01Pick.f s0_0 t177 t178 (([(⟨#[120]⟩ : ByteArray), (⟨#[121]⟩ : ByteArray), (⟨#[122]⟩ : ByteArray), (⟨#[120]⟩ : ByteArray)] : List ByteArray))).bind fun bt182 => (if bt182.1.size + 3 ≤ 9223372036854775807 then (if (bt182.1 ++ (⟨#[32, 61, 32]⟩ : ByteArray)).size + t101.size ≤ 9223372036854775807 then (if ((bt182.1 ++ (⟨#[32, 61, 32]⟩ : ByteArray)) ++ t101).size + 2 ≤ 9223372036854775807 then (some (((bt182.1 ++ (⟨#[32, 61, 32]⟩ : ByteArray)) ++ t101) ++ (⟨#[59, 10]⟩ : ByteArray), bt182.2.1, bt182.2.2)) else (none)) else (none)) else (none)))) = some (r1, r2, r3) := H
                        have A109 := Zs0.mk A1090
                        clear A1090
                        by_cases c110 : t176 = true
                        · subst c110
                          have H1 : (if 7 + t101.size ≤ 9223372036854775807 then (if ((⟨#[114, 101, 116, 117, 114, 110, 32]⟩ : ByteArray) ++ t101).size + 2 ≤ 9223372036854775807 then (some (((⟨#[114, 101, 116, 117, 114, 110, 32]⟩ : ByteArray) ++ t101) ++ (⟨#[59, 10]⟩ : ByteArray), t177, t178)) else (none)) else (none)) = some (r1, r2, r3) := by rw [if_pos rfl] at H; exact H
                          clear H
                          have H := H1
                          clear H1
                          have c111 := ipos H
                          rw [if_pos c111] at H
                          have c111b0 := eq_true c111
                          have c111b1 := decide_eq_true c111
                          try have c111b2 := eq_false (Nat.not_lt.2 c111)
                          have c112 := ipos H
                          rw [if_pos c112] at H
                          have c112b0 := eq_true c112
                          have c112b1 := decide_eq_true c112
                          try have c112b2 := eq_false (Nat.not_lt.2 c112)
                          have c112n0 : 7 + t101.size + 2 ≤ 9223372036854775807 := by have h_ := c112; simp only [ByteArray.size_append] at h_; exact h_
                          have c112n1 := eq_true c112n0
                          have c112n2 := eq_false (Nat.not_lt.2 c112n0)
                          simp only [Option.some.injEq, Prod.mk.injEq] at H
                          obtain ⟨rfl, rfl, rfl⟩ := H
                          go_wp2_with (first | ((with_reducible refine gtC (f := 64) rfl ?_); refine goesL_ (some 106) rfl rfl Tryd.func64 (by kernel_rfl) rfl #[.pointer (some ⟨g, 0, none⟩), .int .i64 3] rfl (by (try simp only [List.map_toArray, List.map_cons, List.map_nil]); first | done | rfl | (simp only [List.length_drop, List.length_take]; rfl)) ?_; (with_reducible refine (spec_l01Once.calls g s0_0 t105 t106 3 true t177 t178 w0 _ ?side1 ?side2 A109.out).mono ?_); (case side1 => repeat (first | (with_reducible first | exact HI0.out | apply IsS86.alloc | apply IsS86.drewN | apply IsS86.drew | apply IsS86.set_1 | apply IsS86.set_2) | exact HI0.out)); (case side2 => repeat (first | (with_reducible first | exact HB.out | apply blA | apply pbN | apply bl1 | refine blS ?_ (IsS86.ge HI0.out)) | exact HB.out)); rintro e w113 ⟨rfl, hi, hb, hk⟩; refine ⟨_, rfl, ?_⟩; have n0_ := Zs0.mk (KeepBut.trans (by repeat (first | (with_reducible first | exact HK.out | apply KeepBut.set_ | apply keep_drewN | apply keep_drew | apply keep_alloc) | exact HK.out)) hk (.inl rfl)); have n1_ := Zs0.mk (hb); have n2_ := Zs0.mk (hi); clear HK; clear HB; clear HI0; have HK := n0_; have HB := n1_; have HI0 := n2_; clear n0_ n1_ n2_; (try clear hb); (try clear hb2); (try clear hk); (try clear hi)))
                          go_ret
                          exact ⟨by first | rfl | (simp [eWn, eWs] <;> rfl) | (simp [*, eWn, eWs] <;> rfl), by repeat (first | (with_reducible first | exact HI0.out | apply IsS86.alloc | apply IsS86.drewN | apply IsS86.drew | apply IsS86.set_1 | apply IsS86.set_2) | exact HI0.out), by repeat (first | (with_reducible first | exact HB.out | apply blA | apply pbN | apply bl1 | refine blS ?_ (IsS86.ge HI0.out)) | exact HB.out), by repeat (first | (with_reducible first | exact HK.out | apply KeepBut.set_ | apply keep_drewN | apply keep_drew | apply keep_alloc) | exact HK.out)⟩
                        · replace c110 := Bool.eq_false_iff.mpr c110
                          subst c110
                          have H1 : ((spec_l01Pick.f s0_0 t177 t178 (([(⟨#[120]⟩ : ByteArray), (⟨#[121]⟩ : ByteArray), (⟨#[122]⟩ : ByteArray), (⟨#[120]⟩ : ByteArray)] : List ByteArray))).bind fun bt182 => (if bt182.1.size + 3 ≤ 9223372036854775807 then (if (bt182.1 ++ (⟨#[32, 61, 32]⟩ : ByteArray)).size + t101.size ≤ 9223372036854775807 then (if ((bt182.1 ++ (⟨#[32, 61, 32]⟩ : ByteArray)) ++ t101).size + 2 ≤ 9223372036854775807 then (some (((bt182.1 ++ (⟨#[32, 61, 32]⟩ : ByteArray)) ++ t101) ++ (⟨#[59, 10]⟩ : ByteArray), bt182.2.1, bt182.2.2)) else (none)) else (none)) else (none))) = some (r1, r2, r3) := by rw [if_neg (show ¬ (false = true) by decide)] at H; exact H
                          clear H
                          have H := H1
                          clear H1
                          obtain ⟨y179, hy179⟩ : ∃ y_ : List ByteArray, y_ = (([(⟨#[120]⟩ : ByteArray), (⟨#[121]⟩ : ByteArray), (⟨#[122]⟩ : ByteArray), (⟨#[120]⟩ : ByteArray)] : List ByteArray)) := ⟨_, rfl⟩
                          replace H : ((spec_l01Pick.f s0_0 t177 t178 y179).bind fun bt182 => (if bt182.1.size + 3 ≤ 9223372036854775807 then (if (bt182.1 ++ (⟨#[32, 61, 32]⟩ : ByteArray)).size + t101.size ≤ 9223372036854775807 then (if ((bt182.1 ++ (⟨#[32, 61, 32]⟩ : ByteArray)) ++ t101).size + 2 ≤ 9223372036854775807 then (some (((bt182.1 ++ (⟨#[32, 61, 32]⟩ : ByteArray)) ++ t101) ++ (⟨#[59, 10]⟩ : ByteArray), bt182.2.1, bt182.2.2)) else (none)) else (none)) else (none))) = some (r1, r2, r3) := by first | (rw [hy179]; with_reducible exact H) | (have H2_ := (Option.bind_some _ _).symm.trans H; rw [hy179]; with_reducible exact H2_) | (have H2_ := (Option.bind_some _ _).symm.trans H; with_reducible exact H2_) | with_reducible exact H | (rw [hy179]; exact H) | exact H
                          have Ny179 := Zs0.mk hy179
                          clear hy179
                          replace H := Option.bind_eq_some_iff.mp H
                          obtain ⟨⟨t182, t183, t184⟩, A1140, H⟩ := H
                          replace H : (if t182.size + 3 ≤ 9223372036854775807 then (if (t182 ++ (⟨#[32, 61, 32]⟩ : ByteArray)).size + t101.size ≤ 9223372036854775807 then (if ((t182 ++ (⟨#[32, 61, 32]⟩ : ByteArray)) ++ t101).size + 2 ≤ 9223372036854775807 then (some (((t182 ++ (⟨#[32, 61, 32]⟩ : ByteArray)) ++ t101) ++ (⟨#[59, 10]⟩ : ByteArray), t183, t184)) else (none)) else (none)) else (none)) = some (r1, r2, r3) := H
                          have A114 := Zs0.mk A1140
                          clear A1140
                          have c115 := ipos H
                          rw [if_pos c115] at H
                          have c115b0 := eq_true c115
                          have c115b1 := decide_eq_true c115
                          try have c115b2 := eq_false (Nat.not_lt.2 c115)
                          have c116 := ipos H
                          rw [if_pos c116] at H
                          have c116b0 := eq_true c116
                          have c116b1 := decide_eq_true c116
                          try have c116b2 := eq_false (Nat.not_lt.2 c116)
                          have c116n0 : t182.size + 3 + t101.size ≤ 9223372036854775807 := by have h_ := c116; simp only [ByteArray.size_append] at h_; exact h_
                          have c116n1 := eq_true c116n0
                          have c116n2 := eq_false (Nat.not_lt.2 c116n0)
                          have c117 := ipos H
                          rw [if_pos c117] at H
                          have c117b0 := eq_true c117
                          have c117b1 := decide_eq_true c117
                          try have c117b2 := eq_false (Nat.not_lt.2 c117)
                          have c117n0 : t182.size + 3 + t101.size + 2 ≤ 9223372036854775807 := by have h_ := c117; simp only [ByteArray.size_append] at h_; exact h_
                          have c117n1 := eq_true c117n0
                          have c117n2 := eq_false (Nat.not_lt.2 c117n0)
                          simp only [Option.some.injEq, Prod.mk.injEq] at H
                          obtain ⟨rfl, rfl, rfl⟩ := H
                          go_wp2_with (first | ((with_reducible refine gtC (f := 64) rfl ?_); refine goesL_ (some 106) rfl rfl Tryd.func64 (by kernel_rfl) rfl #[.pointer (some ⟨g, 0, none⟩), .int .i64 3] rfl (by (try simp only [List.map_toArray, List.map_cons, List.map_nil]); first | done | rfl | (simp only [List.length_drop, List.length_take]; rfl)) ?_; (with_reducible refine (spec_l01Once.calls g s0_0 t105 t106 3 false t177 t178 w0 _ ?side1 ?side2 A109.out).mono ?_); (case side1 => repeat (first | (with_reducible first | exact HI0.out | apply IsS86.alloc | apply IsS86.drewN | apply IsS86.drew | apply IsS86.set_1 | apply IsS86.set_2) | exact HI0.out)); (case side2 => repeat (first | (with_reducible first | exact HB.out | apply blA | apply pbN | apply bl1 | refine blS ?_ (IsS86.ge HI0.out)) | exact HB.out)); rintro e w118 ⟨rfl, hi, hb, hk⟩; refine ⟨_, rfl, ?_⟩; have n0_ := Zs0.mk (KeepBut.trans (by repeat (first | (with_reducible first | exact HK.out | apply KeepBut.set_ | apply keep_drewN | apply keep_drew | apply keep_alloc) | exact HK.out)) hk (.inl rfl)); have n1_ := Zs0.mk (hb); have n2_ := Zs0.mk (hi); clear HK; clear HB; clear HI0; have HK := n0_; have HB := n1_; have HI0 := n2_; clear n0_ n1_ n2_; (try clear hb); (try clear hb2); (try clear hk); (try clear hi)) | ((with_reducible refine gtD (N := 111) rfl ?_); refine Kd.R_lit Kd.string _ 9 ?hg (N := 111) ?hd (xs := ([(⟨#[120]⟩ : ByteArray), (⟨#[121]⟩ : ByteArray), (⟨#[122]⟩ : ByteArray), (⟨#[120]⟩ : ByteArray)] : List ByteArray)) (inner := [.string (⟨#[120]⟩ : ByteArray), .string (⟨#[121]⟩ : ByteArray), .string (⟨#[122]⟩ : ByteArray), .string (⟨#[120]⟩ : ByteArray)]) (ok := fun _ => True) (okp := fun _ => True) ?hr ?hp (fun _ hk => hk) trivial (Below.refl _ _) (Nat.le_refl _) (by simp) ?_; (case hd => rfl); (case hg => rfl); (case hr => first | (go_simp; done) | (go_simp; rfl)); (case hp => exact (Reps.one (show Kd.M Kd.string _ _ _ (⟨#[120]⟩ : ByteArray) [.string (⟨#[120]⟩ : ByteArray)] from rfl) (Reps.one (show Kd.M Kd.string _ _ _ (⟨#[121]⟩ : ByteArray) [.string (⟨#[121]⟩ : ByteArray)] from rfl) (Reps.one (show Kd.M Kd.string _ _ _ (⟨#[122]⟩ : ByteArray) [.string (⟨#[122]⟩ : ByteArray)] from rfl) (Reps.one (show Kd.M Kd.string _ _ _ (⟨#[120]⟩ : ByteArray) [.string (⟨#[120]⟩ : ByteArray)] from rfl) (Reps.none _ _)))))); intro v180 w119 ho120 hb hg_ hnew_; clear hg_ hnew_; (first | rw [← Ny179.out] at ho120 | (simp only [Int.reduceToNat] at ho120; rw [← Ny179.out] at ho120)); have n0_ := Zs0.mk (Kd.R_lower ho120 (keep_size (w := w) (g := g) (row := none) (by repeat (first | (with_reducible first | exact HK.out | apply KeepBut.set_ | apply keep_drewN | apply keep_drew | apply keep_alloc) | exact HK.out)))); have n1_ := Zs0.mk (IsS86.below (by repeat (first | (with_reducible first | exact HI0.out | apply IsS86.alloc | apply IsS86.drewN | apply IsS86.drew | apply IsS86.set_1 | apply IsS86.set_2) | exact HI0.out)) hb); have n2_ := Zs0.mk (KeepBut.trans (by repeat (first | (with_reducible first | exact HK.out | apply KeepBut.set_ | apply keep_drewN | apply keep_drew | apply keep_alloc) | exact HK.out)) (KeepBut.of_below hb g none) (.inl rfl)); have n3_ := Zs0.mk (blT (by repeat (first | (with_reducible first | exact HB.out | apply blA | apply pbN | apply bl1 | refine blS ?_ (IsS86.ge HI0.out)) | exact HB.out)) hb); clear HI0; clear HK; clear HB; have HO181 := n0_; have HI0 := n1_; have HK := n2_; have HB := n3_; clear n0_ n1_ n2_ n3_; clear hb ho120; obtain ⟨Ao121, co121, eo121⟩ := Kd.R_slice HO181.out; subst eo121) | ((with_reducible refine gtC (f := 62) rfl ?_); refine goesL_ (some 112) rfl rfl Tryd.func62 (by kernel_rfl) rfl #[.pointer (some ⟨g, 0, none⟩), .slice Ao121 y179.length co121] rfl (by (try simp only [List.map_toArray, List.map_cons, List.map_nil]); first | done | rfl | (simp only [List.length_drop, List.length_take]; rfl)) ?_; (with_reducible refine (spec_l01Pick.calls g s0_0 t177 t178 _ _ y179 t182 t183 t184 w0 _ ?side1 ?side2 ?side3 ?side4 ?side5 A114.out).mono ?_); (case side1 => repeat (first | (with_reducible first | exact HI0.out | apply IsS86.alloc | apply IsS86.drewN | apply IsS86.drew | apply IsS86.set_1 | apply IsS86.set_2) | exact HI0.out)); (case side2 => repeat (first | (with_reducible first | exact HB.out | apply blA | apply pbN | apply bl1 | refine blS ?_ (IsS86.ge HI0.out)) | exact HB.out)); (case side3 => repeat (first | exact (Kd.R_reads' HO181.out).2.2 | (with_reducible refine Kd.C_alloc ?_ _) | (with_reducible refine Kd.C_drewN ?_ _) | (with_reducible refine Kd.C_drew ?_))); (case side4 => exact (Kd.R_reads' HO181.out).2.1); (case side5 => exact far_slice (IsS86.own_ne HI0.out HO181.out (by decide))); rintro e w122 ⟨rfl, hi, hb, hk⟩; refine ⟨_, rfl, ?_⟩; have n0_ := Zs0.mk (Kd.R_mono (Kd.R_keep (IsS86.apart (show IsS86 w0 _ g s0_0 t177 t178 from by repeat (first | (with_reducible first | exact HI0.out | apply IsS86.alloc | apply IsS86.drewN | apply IsS86.drew | apply IsS86.set_1 | apply IsS86.set_2) | exact HI0.out)) (by (with_reducible repeat (first | apply Kd.R_alloc | apply Kd.R_drewN | apply Kd.R_drew)); exact HO181.out) (by decide)) hk (fun _ h => h.2)) (fun _ h => h.1)); have n1_ := Zs0.mk (KeepBut.trans (by repeat (first | (with_reducible first | exact HK.out | apply KeepBut.set_ | apply keep_drewN | apply keep_drew | apply keep_alloc) | exact HK.out)) hk (.inl rfl)); have n2_ := Zs0.mk (hb); have n3_ := Zs0.mk (hi); clear HO181; clear HK; clear HB; clear HI0; have HO181 := n0_; have HK := n1_; have HB := n2_; have HI0 := n3_; clear n0_ n1_ n2_ n3_; (try clear hb); (try clear hb2); (try clear hk); (try clear hi)))
                          go_ret
                          exact ⟨by first | rfl | (simp [eWn, eWs] <;> rfl) | (simp [*, eWn, eWs] <;> rfl), by repeat (first | (with_reducible first | exact HI0.out | apply IsS86.alloc | apply IsS86.drewN | apply IsS86.drew | apply IsS86.set_1 | apply IsS86.set_2) | exact HI0.out), by repeat (first | (with_reducible first | exact HB.out | apply blA | apply pbN | apply bl1 | refine blS ?_ (IsS86.ge HI0.out)) | exact HB.out), by repeat (first | (with_reducible first | exact HK.out | apply KeepBut.set_ | apply keep_drewN | apply keep_drew | apply keep_alloc) | exact HK.out)⟩
                      · rw [if_neg c108] at H
                        have c108b0 : (t104 == 9) = false := beq_eq_false_iff_ne.mpr c108
                        have c108b1 : (t104 != 9) = true := bne_iff_ne.mpr c108
                        obtain ⟨y185, hy185⟩ : ∃ y_ : List ByteArray, y_ = (([(⟨#[120]⟩ : ByteArray), (⟨#[121]⟩ : ByteArray), (⟨#[122]⟩ : ByteArray), (⟨#[120]⟩ : ByteArray)] : List ByteArray)) := ⟨_, rfl⟩
                        replace H : ((spec_l01Pick.f s0_0 t105 t106 y185).bind fun bt188 => (if bt188.1.size + 3 ≤ 9223372036854775807 then (if (bt188.1 ++ (⟨#[32, 61, 32]⟩ : ByteArray)).size + t101.size ≤ 9223372036854775807 then (if ((bt188.1 ++ (⟨#[32, 61, 32]⟩ : ByteArray)) ++ t101).size + 2 ≤ 9223372036854775807 then (some (((bt188.1 ++ (⟨#[32, 61, 32]⟩ : ByteArray)) ++ t101) ++ (⟨#[59, 10]⟩ : ByteArray), bt188.2.1, bt188.2.2)) else (none)) else (none)) else (none))) = some (r1, r2, r3) := by first | (rw [hy185]; with_reducible exact H) | (have H2_ := (Option.bind_some _ _).symm.trans H; rw [hy185]; with_reducible exact H2_) | (have H2_ := (Option.bind_some _ _).symm.trans H; with_reducible exact H2_) | with_reducible exact H | (rw [hy185]; exact H) | exact H
                        have Ny185 := Zs0.mk hy185
                        clear hy185
                        replace H := Option.bind_eq_some_iff.mp H
                        obtain ⟨⟨t188, t189, t190⟩, A1230, H⟩ := H
                        replace H : (if t188.size + 3 ≤ 9223372036854775807 then (if (t188 ++ (⟨#[32, 61, 32]⟩ : ByteArray)).size + t101.size ≤ 9223372036854775807 then (if ((t188 ++ (⟨#[32, 61, 32]⟩ : ByteArray)) ++ t101).size + 2 ≤ 9223372036854775807 then (some (((t188 ++ (⟨#[32, 61, 32]⟩ : ByteArray)) ++ t101) ++ (⟨#[59, 10]⟩ : ByteArray), t189, t190)) else (none)) else (none)) else (none)) = some (r1, r2, r3) := H
                        have A123 := Zs0.mk A1230
                        clear A1230
                        have c124 := ipos H
                        rw [if_pos c124] at H
                        have c124b0 := eq_true c124
                        have c124b1 := decide_eq_true c124
                        try have c124b2 := eq_false (Nat.not_lt.2 c124)
                        have c125 := ipos H
                        rw [if_pos c125] at H
                        have c125b0 := eq_true c125
                        have c125b1 := decide_eq_true c125
                        try have c125b2 := eq_false (Nat.not_lt.2 c125)
                        have c125n0 : t188.size + 3 + t101.size ≤ 9223372036854775807 := by have h_ := c125; simp only [ByteArray.size_append] at h_; exact h_
                        have c125n1 := eq_true c125n0
                        have c125n2 := eq_false (Nat.not_lt.2 c125n0)
                        have c126 := ipos H
                        rw [if_pos c126] at H
                        have c126b0 := eq_true c126
                        have c126b1 := decide_eq_true c126
                        try have c126b2 := eq_false (Nat.not_lt.2 c126)
                        have c126n0 : t188.size + 3 + t101.size + 2 ≤ 9223372036854775807 := by have h_ := c126; simp only [ByteArray.size_append] at h_; exact h_
                        have c126n1 := eq_true c126n0
                        have c126n2 := eq_false (Nat.not_lt.2 c126n0)
                        simp only [Option.some.injEq, Prod.mk.injEq] at H
                        obtain ⟨rfl, rfl, rfl⟩ := H
                        go_wp2_with (first | ((with_reducible refine gtD (N := 111) rfl ?_); refine Kd.R_lit Kd.string _ 9 ?hg (N := 111) ?hd (xs := ([(⟨#[120]⟩ : ByteArray), (⟨#[121]⟩ : ByteArray), (⟨#[122]⟩ : ByteArray), (⟨#[120]⟩ : ByteArray)] : List ByteArray)) (inner := [.string (⟨#[120]⟩ : ByteArray), .string (⟨#[121]⟩ : ByteArray), .string (⟨#[122]⟩ : ByteArray), .string (⟨#[120]⟩ : ByteArray)]) (ok := fun _ => True) (okp := fun _ => True) ?hr ?hp (fun _ hk => hk) trivial (Below.refl _ _) (Nat.le_refl _) (by simp) ?_; (case hd => rfl); (case hg => rfl); (case hr => first | (go_simp; done) | (go_simp; rfl)); (case hp => exact (Reps.one (show Kd.M Kd.string _ _ _ (⟨#[120]⟩ : ByteArray) [.string (⟨#[120]⟩ : ByteArray)] from rfl) (Reps.one (show Kd.M Kd.string _ _ _ (⟨#[121]⟩ : ByteArray) [.string (⟨#[121]⟩ : ByteArray)] from rfl) (Reps.one (show Kd.M Kd.string _ _ _ (⟨#[122]⟩ : ByteArray) [.string (⟨#[122]⟩ : ByteArray)] from rfl) (Reps.one (show Kd.M Kd.string _ _ _ (⟨#[120]⟩ : ByteArray) [.string (⟨#[120]⟩ : ByteArray)] from rfl) (Reps.none _ _)))))); intro v186 w127 ho128 hb hg_ hnew_; clear hg_ hnew_; (first | rw [← Ny185.out] at ho128 | (simp only [Int.reduceToNat] at ho128; rw [← Ny185.out] at ho128)); have n0_ := Zs0.mk (Kd.R_lower ho128 (keep_size (w := w) (g := g) (row := none) (by repeat (first | (with_reducible first | exact HK.out | apply KeepBut.set_ | apply keep_drewN | apply keep_drew | apply keep_alloc) | exact HK.out)))); have n1_ := Zs0.mk (IsS86.below (by repeat (first | (with_reducible first | exact HI0.out | apply IsS86.alloc | apply IsS86.drewN | apply IsS86.drew | apply IsS86.set_1 | apply IsS86.set_2) | exact HI0.out)) hb); have n2_ := Zs0.mk (KeepBut.trans (by repeat (first | (with_reducible first | exact HK.out | apply KeepBut.set_ | apply keep_drewN | apply keep_drew | apply keep_alloc) | exact HK.out)) (KeepBut.of_below hb g none) (.inl rfl)); have n3_ := Zs0.mk (blT (by repeat (first | (with_reducible first | exact HB.out | apply blA | apply pbN | apply bl1 | refine blS ?_ (IsS86.ge HI0.out)) | exact HB.out)) hb); clear HI0; clear HK; clear HB; have HO187 := n0_; have HI0 := n1_; have HK := n2_; have HB := n3_; clear n0_ n1_ n2_ n3_; clear hb ho128; obtain ⟨Ao129, co129, eo129⟩ := Kd.R_slice HO187.out; subst eo129) | ((with_reducible refine gtC (f := 62) rfl ?_); refine goesL_ (some 112) rfl rfl Tryd.func62 (by kernel_rfl) rfl #[.pointer (some ⟨g, 0, none⟩), .slice Ao129 y185.length co129] rfl (by (try simp only [List.map_toArray, List.map_cons, List.map_nil]); first | done | rfl | (simp only [List.length_drop, List.length_take]; rfl)) ?_; (with_reducible refine (spec_l01Pick.calls g s0_0 t105 t106 _ _ y185 t188 t189 t190 w0 _ ?side1 ?side2 ?side3 ?side4 ?side5 A123.out).mono ?_); (case side1 => repeat (first | (with_reducible first | exact HI0.out | apply IsS86.alloc | apply IsS86.drewN | apply IsS86.drew | apply IsS86.set_1 | apply IsS86.set_2) | exact HI0.out)); (case side2 => repeat (first | (with_reducible first | exact HB.out | apply blA | apply pbN | apply bl1 | refine blS ?_ (IsS86.ge HI0.out)) | exact HB.out)); (case side3 => repeat (first | exact (Kd.R_reads' HO187.out).2.2 | (with_reducible refine Kd.C_alloc ?_ _) | (with_reducible refine Kd.C_drewN ?_ _) | (with_reducible refine Kd.C_drew ?_))); (case side4 => exact (Kd.R_reads' HO187.out).2.1); (case side5 => exact far_slice (IsS86.own_ne HI0.out HO187.out (by decide))); rintro e w130 ⟨rfl, hi, hb, hk⟩; refine ⟨_, rfl, ?_⟩; have n0_ := Zs0.mk (Kd.R_mono (Kd.R_keep (IsS86.apart (show IsS86 w0 _ g s0_0 t105 t106 from by repeat (first | (with_reducible first | exact HI0.out | apply IsS86.alloc | apply IsS86.drewN | apply IsS86.drew | apply IsS86.set_1 | apply IsS86.set_2) | exact HI0.out)) (by (with_reducible repeat (first | apply Kd.R_alloc | apply Kd.R_drewN | apply Kd.R_drew)); exact HO187.out) (by decide)) hk (fun _ h => h.2)) (fun _ h => h.1)); have n1_ := Zs0.mk (KeepBut.trans (by repeat (first | (with_reducible first | exact HK.out | apply KeepBut.set_ | apply keep_drewN | apply keep_drew | apply keep_alloc) | exact HK.out)) hk (.inl rfl)); have n2_ := Zs0.mk (hb); have n3_ := Zs0.mk (hi); clear HO187; clear HK; clear HB; clear HI0; have HO187 := n0_; have HK := n1_; have HB := n2_; have HI0 := n3_; clear n0_ n1_ n2_ n3_; (try clear hb); (try clear hb2); (try clear hk); (try clear hi)))
                        go_ret
                        exact ⟨by first | rfl | (simp [eWn, eWs] <;> rfl) | (simp [*, eWn, eWs] <;> rfl), by repeat (first | (with_reducible first | exact HI0.out | apply IsS86.alloc | apply IsS86.drewN | apply IsS86.drew | apply IsS86.set_1 | apply IsS86.set_2) | exact HI0.out), by repeat (first | (with_reducible first | exact HB.out | apply blA | apply pbN | apply bl1 | refine blS ?_ (IsS86.ge HI0.out)) | exact HB.out), by repeat (first | (with_reducible first | exact HK.out | apply KeepBut.set_ | apply keep_drewN | apply keep_drew | apply keep_alloc) | exact HK.out)⟩

end Go.Proofs.YtbihpjngmjkjmaaDoor.P
