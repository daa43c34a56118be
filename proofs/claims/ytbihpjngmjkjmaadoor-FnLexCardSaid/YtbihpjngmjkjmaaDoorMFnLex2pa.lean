/- Every draw of FnLex comes to an end, and what it draws is not long. Conditions: a code of at most 2 to the 20th bytes. -/
import Derived.Test.YtbihpjngmjkjmaaDoorMFnLex0pa
import Derived.Test.YtbihpjngmjkjmaaDoorMFnLex2a
import Derived.Test.YtbihpjngmjkjmaaDoorMFnLex0b
namespace Go.Proofs.YtbihpjngmjkjmaaDoor.Dec
open Go.RowKit Go.Proofs.YtbihpjngmjkjmaaDoor.P Go.Proofs.YtbihpjngmjkjmaaDoorW.PrintWords Go.Proofs.YtbihpjngmjkjmaaDoorW.PrintLast Go.Proofs.YtbihpjngmjkjmaaDoor.Aux Go.Lib
set_option linter.unusedVariables false
set_option linter.unusedSimpArgs false
set_option linter.unusedSectionVars false
/-- It comes to an end, and what it answers is so. -/
def Ends {α : Type} (f : Nat → Option α) (P : α → Prop) : Prop := ∃ r, Ev f r ∧ P r
section
variable {α β : Type} {f g : Nat → Option α} {P Q : α → Prop} {R : β → Prop}
theorem Ends.done {r : α} (h : Q r) : Ends (fun _ => some r) Q := ⟨r, Ev.now _, h⟩
theorem Ends.bind {u : Nat → α → Option β} (h : Ends f P) (k : ∀ r, P r → Ends (fun n => u n r) R) : Ends (fun n => (f n).bind (u n)) R := by
  obtain ⟨r, h1, h2⟩ := h
  obtain ⟨v, h3, h4⟩ := k r h2
  exact ⟨v, Ev.bind h1 h3, h4⟩
theorem Ends.const {o : Option α} {u : Nat → α → Option β} {a : α} (h : o = some a) (k : Ends (fun n => u n a) R) : Ends (fun n => o.bind (u n)) R := by
  subst h
  exact k
theorem Ends.step (h : ∀ k, g (k + 1) = f k) (k : Ends f Q) : Ends g Q := by
  obtain ⟨r, h1, h2⟩ := k
  exact ⟨r, Ev.step h h1, h2⟩
theorem Ends.congr (h : ∀ k, g k = f k) (k : Ends f Q) : Ends g Q := by
  obtain ⟨r, h1, h2⟩ := k
  exact ⟨r, Ev.congr h h1, h2⟩
theorem Ends.ite {p : Prop} [Decidable p] (h1 : p → Ends f Q) (h2 : ¬ p → Ends g Q) : Ends (fun k => if p then f k else g k) Q := by
  by_cases h : p
  · simp only [if_pos h]
    exact h1 h
  · simp only [if_neg h]
    exact h2 h
theorem Ends.guard {p : Prop} [Decidable p] (h : p) (k : Ends f Q) : Ends (fun n => if p then f n else none) Q := by
  simp only [if_pos h]
  exact k
theorem Ends.weak (h : Ends f P) (k : ∀ r, P r → Q r) : Ends f Q := by
  obtain ⟨r, h1, h2⟩ := h
  exact ⟨r, h1, k r h2⟩
end
theorem and255 (a : Int) : 0 ≤ Go.bits .and .i64 a 255 ∧ Go.bits .and .i64 a 255 ≤ 255 := by
  have h2 : (BitVec.ofInt 64 255).toNat = 255 := by decide
  have h3 : (BitVec.ofInt 64 a &&& BitVec.ofInt 64 255).toNat ≤ 255 := by
    rw [BitVec.toNat_and, h2]
    exact Nat.and_le_right
  have e : Go.bits .and .i64 a 255 = IntKind.i64.wrap ((BitVec.ofInt 64 a &&& BitVec.ofInt 64 255).toNat : Int) := rfl
  rw [e, IntKind.wrap_i64]
  omega
theorem lsz (a : Array UInt8) : (⟨a⟩ : ByteArray).size = a.size := rfl
/-- The cursor stands in its code. -/
def Cur (s : List Int) (i : Int) : Prop := s.length ≤ 1048576 ∧ 0 ≤ i ∧ i ≤ (s.length : Int)
theorem byte_ends {s : List Int} {i : Int} (h : Int) (hc : Cur s i) : ∃ x i' h', spec_l01Byte.f s i h = some (x, i', h') ∧ 0 ≤ x ∧ x ≤ 255 ∧ Cur s i' := by
  obtain ⟨c1, c2, c3⟩ := hc
  unfold spec_l01Byte.f
  by_cases h1 : i < (s.length : Int)
  · rw [if_pos h1, if_pos c2, wrap_ok (i := i + 1) (by omega) (by omega)]
    exact ⟨_, _, _, rfl, (and255 _).1, (and255 _).2, c1, by omega, by omega⟩
  · rw [if_neg h1]
    exact ⟨_, _, _, rfl, (and255 _).1, (and255 _).2, c1, c2, c3⟩
theorem below_ends {s : List Int} {i : Int} (h n : Int) (hc : Cur s i) : ∃ x i' h', spec_l01Below.f s i h n = some (x, i', h') ∧ 0 ≤ x ∧ (0 < n → x < n) ∧ Cur s i' := by
  unfold spec_l01Below.f
  by_cases h0 : n ≤ 0
  · rw [if_pos h0]
    exact ⟨_, _, _, rfl, Int.le_refl _, fun z => by omega, hc⟩
  rw [if_neg h0]
  have hn : 0 < n := by omega
  obtain ⟨x, i1, g1, e1, x0, x1, c1⟩ := byte_ends h hc
  by_cases h1 : n ≤ 256
  · rw [if_pos h1, e1, Option.bind_some, if_neg (by omega)]
    exact ⟨_, _, _, rfl, Int.tmod_nonneg _ x0, fun _ => Int.tmod_lt_of_pos _ hn, c1⟩
  · obtain ⟨y, i2, g2, e2, y0, y1, c2⟩ := byte_ends g1 c1
    obtain ⟨z, i3, g3, e3, z0, z1, c3⟩ := byte_ends g2 c2
    obtain ⟨u, i4, g4, e4, u0, u1, c4⟩ := byte_ends g3 c3
    simp only [if_neg h1, e1, e2, e3, e4, Option.bind_some]
    rw [if_neg (by omega)]
    refine ⟨_, _, _, rfl, ?_, fun _ => Int.tmod_lt_of_pos _ hn, c4⟩
    apply Int.tmod_nonneg
    rw [wrap_ok (i := x * 16777216) (by omega) (by omega), wrap_ok (i := y * 65536) (by omega) (by omega), wrap_ok (i := z * 256) (by omega) (by omega), wrap_ok (i := x * 16777216 + y * 65536) (by omega) (by omega), wrap_ok (i := x * 16777216 + y * 65536 + z * 256) (by omega) (by omega), wrap_ok (by omega) (by omega)]
    omega
/-- A row of texts that are not long. -/
def Short (l : List ByteArray) (B : Nat) : Prop := 0 < l.length ∧ l.length ≤ 256 ∧ ∀ x ∈ l, x.size ≤ B
section
variable {β : Type} {R : β → Prop} {s : List Int} {i h : Int}
theorem Ends.below {n : Int} {u : Nat → Int × Int × Int → Option β} (hc : Cur s i) (k : ∀ x i' h', 0 ≤ x → (0 < n → x < n) → Cur s i' → Ends (fun m => u m (x, i', h')) R) : Ends (fun m => (spec_l01Below.f s i h n).bind (u m)) R := by
  obtain ⟨x, i', h', e, a, b, c⟩ := below_ends h n hc
  exact Ends.const e (k x i' h' a b c)
theorem once_ends {n : Int} (hc : Cur s i) : ∃ b i' h', spec_l01Once.f s i h n = some (b, i', h') ∧ Cur s i' := by
  obtain ⟨x, i', h', e, a, b, c⟩ := below_ends h n hc
  unfold spec_l01Once.f
  rw [e]
  exact ⟨_, _, _, rfl, c⟩
theorem Ends.once {n : Int} {u : Nat → Bool × Int × Int → Option β} (hc : Cur s i) (k : ∀ b i' h', Cur s i' → Ends (fun m => u m (b, i', h')) R) : Ends (fun m => (spec_l01Once.f s i h n).bind (u m)) R := by
  obtain ⟨x, i', h', e, c⟩ := once_ends (h := h) (n := n) hc
  exact Ends.const e (k x i' h' c)
theorem pick_ends {l : List ByteArray} (B : Nat) (hl : Short l B) (hc : Cur s i) : ∃ x i' h', spec_l01Pick.f s i h l = some (x, i', h') ∧ x.size ≤ B ∧ Cur s i' := by
  obtain ⟨l0, l1, l2⟩ := hl
  obtain ⟨x, i', h', e, a, b, c⟩ := below_ends h (l.length : Int) hc
  have hb := b (by omega)
  obtain ⟨j, rfl⟩ : ∃ j : Nat, x = (j : Int) := ⟨x.toNat, by omega⟩
  unfold spec_l01Pick.f
  rw [e, Option.bind_some, if_pos a, if_pos hb]
  refine ⟨_, _, _, rfl, ?_, c⟩
  show (rdOf ByteArray.empty l (j : Int)).size ≤ B
  rw [rdOf_lt _ _ j (by omega)]
  exact l2 _ (List.getElem_mem _)
theorem Ends.pick {l : List ByteArray} {u : Nat → ByteArray × Int × Int → Option β} (B : Nat) (hl : Short l B) (hc : Cur s i) (k : ∀ x i' h', x.size ≤ B → Cur s i' → Ends (fun m => u m (x, i', h')) R) : Ends (fun m => (spec_l01Pick.f s i h l).bind (u m)) R := by
  obtain ⟨x, i', h', e, a, c⟩ := pick_ends (h := h) B hl hc
  exact Ends.const e (k x i' h' a c)
theorem pickInt_ends {l : List Int} (P : Int → Prop) (l0 : 0 < l.length) (l2 : ∀ x ∈ l, P x) (hc : Cur s i) : ∃ x i' h', spec_l01PickInt.f s i h l = some (x, i', h') ∧ P x ∧ Cur s i' := by
  obtain ⟨x, i', h', e, a, b, c⟩ := below_ends h (l.length : Int) hc
  have hb := b (by omega)
  obtain ⟨j, rfl⟩ : ∃ j : Nat, x = (j : Int) := ⟨x.toNat, by omega⟩
  unfold spec_l01PickInt.f
  rw [e, Option.bind_some, if_pos a, if_pos hb]
  refine ⟨_, _, _, rfl, ?_, c⟩
  show P (rd l (j : Int))
  rw [rd_lt _ j (by omega)]
  exact l2 _ (List.getElem_mem _)
end
theorem w_one : wrap64 ((1 : Int) - 1) = 0 := by unfold wrap64; omega
theorem w_two : wrap64 ((2 : Int) - 1) = 1 := by unfold wrap64; omega
theorem w_none : wrap64 ((0 : Int) - 1) = -1 := by unfold wrap64; omega

def Out (s : List Int) (B : Nat) (r : ByteArray × Int × Int) : Prop := r.1.size ≤ B ∧ Cur s r.2.1
section
variable {s : List Int} {vars : List ByteArray} (hv : Short vars 1)
include hv
theorem exp_base {x2 : Int} {i h : Int} (hc : Cur s i) : Ends (fun k => spec_l01Exp.j0 k vars x2 true s i h) (Out s 3) := by
  refine Ends.step (fun k => by rw [spec_l01Exp.j0, if_pos rfl]) ?_
  refine Ends.once hc (fun b i1 h1 c1 => ?_)
  refine Ends.ite (fun _ => ?_) (fun _ => ?_)
  · exact Ends.pick 3 ⟨by decide, by decide, by simp [lsz]⟩ c1 (fun x i2 h2 e2 c2 => Ends.done ⟨e2, c2⟩)
  · exact Ends.pick 1 hv c1 (fun x i2 h2 e2 c2 => Ends.done ⟨Nat.le_trans e2 (by decide), c2⟩)
theorem exp_j1 {B : Nat} (hB : B ≤ 1000) {x2 b : Int} (hw : wrap64 (x2 - 1) = b) (prev : ∀ i h, Cur s i → Ends (fun k => spec_l01Exp.f k s i h vars b) (Out s B)) (x : ByteArray) (hx : x.size ≤ B) (n : Int) (t : Bool) {i h : Int} (hc : Cur s i) :
    Ends (fun k => spec_l01Exp.j1 k vars x2 x n t s i h) (Out s (2 * B + 10)) := by
  refine Ends.step (fun k => by rw [spec_l01Exp.j1, hw]) ?_
  refine Ends.ite (fun _ => ?_) (fun _ => Ends.ite (fun _ => ?_) (fun _ => ?_))
  · refine Ends.guard (by omega) (Ends.pick 4 ⟨by decide, by decide, by simp [lsz]⟩ hc (fun y i2 h2 e2 c2 => ?_))
    refine Ends.guard (by simp only [ByteArray.size_append, lsz, List.size_toArray, List.length_cons, List.length_nil]; omega) ?_
    refine Ends.bind (prev _ _ c2) (fun r hr => ?_)
    obtain ⟨z, i3, h3⟩ := r
    obtain ⟨e3, c3⟩ := hr
    have e3 : z.size ≤ B := e3
    refine Ends.guard (by simp only [ByteArray.size_append, lsz, List.size_toArray, List.length_cons, List.length_nil]; omega) (Ends.guard (by simp only [ByteArray.size_append, lsz, List.size_toArray, List.length_cons, List.length_nil]; omega) (Ends.done ⟨?_, c3⟩))
    simp only [ByteArray.size_append, lsz, List.size_toArray, List.length_cons, List.length_nil]
    omega
  · refine Ends.guard (by omega) (Ends.guard (by simp only [ByteArray.size_append, lsz, List.size_toArray, List.length_cons, List.length_nil]; omega) (Ends.done ⟨?_, hc⟩))
    simp only [ByteArray.size_append, lsz, List.size_toArray, List.length_cons, List.length_nil]
    omega
  · exact Ends.done ⟨by show x.size ≤ _; omega, hc⟩
theorem exp_j0 {B : Nat} (hB : B ≤ 1000) {x2 b : Int} (hw : wrap64 (x2 - 1) = b) (prev : ∀ i h, Cur s i → Ends (fun k => spec_l01Exp.f k s i h vars b) (Out s B)) (t : Bool) {i h : Int} (hc : Cur s i) :
    Ends (fun k => spec_l01Exp.j0 k vars x2 t s i h) (Out s (2 * B + 10)) := by
  cases t with
  | true => exact (exp_base hv hc).weak (fun r hr => ⟨Nat.le_trans hr.1 (by omega), hr.2⟩)
  | false =>
    refine Ends.step (fun k => by rw [spec_l01Exp.j0, if_neg (by decide), hw]) ?_
    refine Ends.bind (prev _ _ hc) (fun r hr => ?_)
    obtain ⟨z, i3, h3⟩ := r
    obtain ⟨e3, c3⟩ := hr
    have e3 : z.size ≤ B := e3
    refine Ends.below c3 (fun n i4 h4 _ _ c4 => ?_)
    refine Ends.ite (fun _ => ?_) (fun _ => Ends.ite (fun _ => exp_j1 hv hB hw prev z e3 _ _ c4) (fun _ => exp_j1 hv hB hw prev z e3 _ _ c4))
    refine Ends.pick 1 ⟨by decide, by decide, by simp [lsz]⟩ c4 (fun x i2 h2 e2 c2 => ?_)
    refine Ends.guard (by show x.size + 1 ≤ _; omega) ?_
    refine Ends.pick (B + 5) ⟨by simp, by simp, by simp [lsz]; omega⟩ c2 (fun y i5 h5 e5 c5 => ?_)
    refine Ends.guard (by simp only [ByteArray.size_append, lsz, List.size_toArray, List.length_cons, List.length_nil]; omega) (Ends.guard (by simp only [ByteArray.size_append, lsz, List.size_toArray, List.length_cons, List.length_nil]; omega) (Ends.done ⟨?_, c5⟩))
    simp only [ByteArray.size_append, lsz, List.size_toArray, List.length_cons, List.length_nil]
    omega
theorem exp0 (i h : Int) (hc : Cur s i) : Ends (fun k => spec_l01Exp.f k s i h vars 0) (Out s 3) :=
  Ends.step (fun k => by rw [spec_l01Exp.f, if_pos (by decide)]) (exp_base hv hc)
theorem exp1 (i h : Int) (hc : Cur s i) : Ends (fun k => spec_l01Exp.f k s i h vars 1) (Out s 16) := by
  refine Ends.step (fun k => by rw [spec_l01Exp.f, if_neg (by decide)]) (Ends.once hc (fun b i1 h1 c1 => ?_))
  exact exp_j0 hv (B := 3) (by decide) (b := 0) w_one (exp0 hv) b c1
theorem exp2 (i h : Int) (hc : Cur s i) : Ends (fun k => spec_l01Exp.f k s i h vars 2) (Out s 42) := by
  refine Ends.step (fun k => by rw [spec_l01Exp.f, if_neg (by decide)]) (Ends.once hc (fun b i1 h1 c1 => ?_))
  exact exp_j0 hv (B := 16) (by decide) (b := 1) w_two (exp1 hv) b c1
end

section
variable {s : List Int} {vars : List ByteArray}
theorem stmt_set {x : ByteArray} (hx : x.size ≤ 42) {i h : Int} (hc : Cur s i) {B : Nat} (hB : 100 ≤ B) :
    Ends (fun k => (spec_l01Pick.f s i h (([(⟨#[120]⟩ : ByteArray), (⟨#[121]⟩ : ByteArray), (⟨#[122]⟩ : ByteArray), (⟨#[120]⟩ : ByteArray)] : List ByteArray))).bind fun bt149 => (if bt149.1.size + 3 ≤ 9223372036854775807 then (if (bt149.1 ++ (⟨#[32, 61, 32]⟩ : ByteArray)).size + x.size ≤ 9223372036854775807 then (if ((bt149.1 ++ (⟨#[32, 61, 32]⟩ : ByteArray)) ++ x).size + 2 ≤ 9223372036854775807 then (some (((bt149.1 ++ (⟨#[32, 61, 32]⟩ : ByteArray)) ++ x) ++ (⟨#[59, 10]⟩ : ByteArray), bt149.2.1, bt149.2.2)) else (none)) else (none)) else (none))) (Out s B) := by
  refine Ends.pick 1 ⟨by decide, by decide, by simp [lsz]⟩ hc (fun y i2 h2 e2 c2 => ?_)
  refine Ends.guard (by show y.size + 3 ≤ _; omega) (Ends.guard (by simp only [ByteArray.size_append, lsz, List.size_toArray, List.length_cons, List.length_nil]; omega) (Ends.guard (by simp only [ByteArray.size_append, lsz, List.size_toArray, List.length_cons, List.length_nil]; omega) (Ends.done ⟨?_, c2⟩)))
  simp only [ByteArray.size_append, lsz, List.size_toArray, List.length_cons, List.length_nil]
  omega
/-- What a statement holds within it. -/
def Within (s : List Int) (vars : List ByteArray) (b : Int) (B : Nat) : Prop := ∀ i h, Cur s i → Ends (fun k => spec_l01Stmt.f k s i h vars b) (Out s B)
theorem stmt_j1 {B : Nat} (hB : B ≤ 1000) {x2 b : Int} (hw : wrap64 (x2 - 1) = b) (prev : 0 < x2 → Within s vars b B) (prev0 : 0 < x2 → Within s vars 0 B) (x : ByteArray) (hx : x.size ≤ 42) (n : Int) (t : Bool) {i h : Int} (hc : Cur s i) :
    Ends (fun k => spec_l01Stmt.j1 k vars x2 x n t s i h) (Out s (3 * B + 100)) := by
  refine Ends.step (fun k => by rw [spec_l01Stmt.j1, hw]) ?_
  refine Ends.ite (fun _ => ?_) (fun _ => Ends.ite (fun _ => ?_) (fun _ => Ends.ite (fun _ => Ends.ite (fun hp => ?_) (fun _ => ?_)) (fun _ => Ends.ite (fun _ => Ends.ite (fun hp => ?_) (fun _ => ?_)) (fun _ => Ends.ite (fun _ => ?_) (fun _ => Ends.ite (fun _ => ?_) (fun _ => ?_))))))
  · refine Ends.pick 1 ⟨by decide, by decide, by simp [lsz]⟩ hc (fun y i2 h2 e2 c2 => ?_)
    refine Ends.guard (by show y.size + 3 ≤ _; omega) ?_
    refine Ends.pick 1 ⟨by decide, by decide, by simp [lsz]⟩ c2 (fun y3 i3 h3 e3 c3 => ?_)
    refine Ends.guard (by simp only [ByteArray.size_append, lsz, List.size_toArray, List.length_cons, List.length_nil]; omega) (Ends.guard (by simp only [ByteArray.size_append, lsz, List.size_toArray, List.length_cons, List.length_nil]; omega) (?_))
    refine Ends.pick 5 ⟨by decide, by decide, by simp [lsz]⟩ c3 (fun y4 i4 h4 e4 c4 => ?_)
    refine Ends.guard (by simp only [ByteArray.size_append, lsz, List.size_toArray, List.length_cons, List.length_nil]; omega) (Ends.guard (by simp only [ByteArray.size_append, lsz, List.size_toArray, List.length_cons, List.length_nil]; omega) (Ends.done ⟨?_, c4⟩))
    simp only [ByteArray.size_append, lsz, List.size_toArray, List.length_cons, List.length_nil]
    omega
  · refine Ends.guard (by omega) (Ends.guard (by simp only [ByteArray.size_append, lsz, List.size_toArray, List.length_cons, List.length_nil]; omega) (Ends.done ⟨?_, hc⟩))
    simp only [ByteArray.size_append, lsz, List.size_toArray, List.length_cons, List.length_nil]
    omega
  · refine Ends.guard (by omega) (Ends.guard (by simp only [ByteArray.size_append, lsz, List.size_toArray, List.length_cons, List.length_nil]; omega) (?_))
    refine Ends.bind (prev hp _ _ hc) (fun r hr => ?_)
    obtain ⟨y2, i2, h2⟩ := r
    obtain ⟨e2, c2⟩ := hr
    have e2 : y2.size ≤ B := e2
    refine Ends.guard (by simp only [ByteArray.size_append, lsz, List.size_toArray, List.length_cons, List.length_nil]; omega) (?_)
    refine Ends.bind (prev hp _ _ c2) (fun r hr => ?_)
    obtain ⟨y3, i3, h3⟩ := r
    obtain ⟨e3, c3⟩ := hr
    have e3 : y3.size ≤ B := e3
    refine Ends.guard (by simp only [ByteArray.size_append, lsz, List.size_toArray, List.length_cons, List.length_nil]; omega) (Ends.guard (by simp only [ByteArray.size_append, lsz, List.size_toArray, List.length_cons, List.length_nil]; omega) (?_))
    refine Ends.bind (prev hp _ _ c3) (fun r hr => ?_)
    obtain ⟨y4, i4, h4⟩ := r
    obtain ⟨e4, c4⟩ := hr
    have e4 : y4.size ≤ B := e4
    refine Ends.guard (by simp only [ByteArray.size_append, lsz, List.size_toArray, List.length_cons, List.length_nil]; omega) (Ends.guard (by simp only [ByteArray.size_append, lsz, List.size_toArray, List.length_cons, List.length_nil]; omega) (Ends.done ⟨?_, c4⟩))
    simp only [ByteArray.size_append, lsz, List.size_toArray, List.length_cons, List.length_nil]
    omega
  · exact stmt_set hx hc (by omega)
  · refine Ends.pick 1 ⟨by decide, by decide, by simp [lsz]⟩ hc (fun y i2 h2 e2 c2 => ?_)
    refine Ends.guard (by show 4 + y.size ≤ _; omega) (Ends.guard (by simp only [ByteArray.size_append, lsz, List.size_toArray, List.length_cons, List.length_nil]; omega) (?_))
    refine Ends.bind (prev0 hp _ _ c2) (fun r hr => ?_)
    obtain ⟨y3, i3, h3⟩ := r
    obtain ⟨e3, c3⟩ := hr
    have e3 : y3.size ≤ B := e3
    refine Ends.guard (by simp only [ByteArray.size_append, lsz, List.size_toArray, List.length_cons, List.length_nil]; omega) (?_)
    refine Ends.bind (prev0 hp _ _ c3) (fun r hr => ?_)
    obtain ⟨y4, i4, h4⟩ := r
    obtain ⟨e4, c4⟩ := hr
    have e4 : y4.size ≤ B := e4
    refine Ends.guard (by simp only [ByteArray.size_append, lsz, List.size_toArray, List.length_cons, List.length_nil]; omega) (Ends.guard (by simp only [ByteArray.size_append, lsz, List.size_toArray, List.length_cons, List.length_nil]; omega) (Ends.done ⟨?_, c4⟩))
    simp only [ByteArray.size_append, lsz, List.size_toArray, List.length_cons, List.length_nil]
    omega
  · exact stmt_set hx hc (by omega)
  · refine Ends.pick 5 ⟨by decide, by decide, by simp [lsz]⟩ hc (fun y i2 h2 e2 c2 => ?_)
    refine Ends.guard (by show 4 + y.size ≤ _; omega) (Ends.guard (by simp only [ByteArray.size_append, lsz, List.size_toArray, List.length_cons, List.length_nil]; omega) (Ends.done ⟨?_, c2⟩))
    simp only [ByteArray.size_append, lsz, List.size_toArray, List.length_cons, List.length_nil]
    omega
  · refine Ends.once hc (fun q i2 h2 c2 => Ends.ite (fun _ => ?_) (fun _ => ?_))
    · refine Ends.guard (by omega) (Ends.guard (by simp only [ByteArray.size_append, lsz, List.size_toArray, List.length_cons, List.length_nil]; omega) (Ends.done ⟨?_, c2⟩))
      simp only [ByteArray.size_append, lsz, List.size_toArray, List.length_cons, List.length_nil]
      omega
    · exact stmt_set hx c2 (by omega)
  · exact stmt_set hx hc (by omega)
theorem stmt_j0 {B : Nat} (hB : B ≤ 1000) {x2 b : Int} (hw : wrap64 (x2 - 1) = b) (prev : 0 < x2 → Within s vars b B) (prev0 : 0 < x2 → Within s vars 0 B) (x : ByteArray) (hx : x.size ≤ 42) (n : Int) (t : Bool) {i h : Int} (hc : Cur s i) :
    Ends (fun k => spec_l01Stmt.j0 k vars x2 x n t s i h) (Out s (3 * B + 100)) := by
  refine Ends.step (fun k => by rw [spec_l01Stmt.j0]) ?_
  refine Ends.ite (fun _ => ?_) (fun _ => Ends.ite (fun _ => stmt_j1 hB hw prev prev0 x hx _ _ hc) (fun _ => stmt_j1 hB hw prev prev0 x hx _ _ hc))
  refine Ends.pick 1 ⟨by decide, by decide, by simp [lsz]⟩ hc (fun y i2 h2 e2 c2 => ?_)
  refine Ends.guard (by show y.size + 1 ≤ _; omega) ?_
  refine Ends.pick 5 ⟨by decide, by decide, by simp [lsz]⟩ c2 (fun y3 i3 h3 e3 c3 => ?_)
  refine Ends.guard (by simp only [ByteArray.size_append, lsz, List.size_toArray, List.length_cons, List.length_nil]; omega) (Ends.guard (by simp only [ByteArray.size_append, lsz, List.size_toArray, List.length_cons, List.length_nil]; omega) (Ends.guard (by simp only [ByteArray.size_append, lsz, List.size_toArray, List.length_cons, List.length_nil]; omega) (Ends.guard (by simp only [ByteArray.size_append, lsz, List.size_toArray, List.length_cons, List.length_nil]; omega) (Ends.done ⟨?_, c3⟩))))
  simp only [ByteArray.size_append, lsz, List.size_toArray, List.length_cons, List.length_nil]
  omega
theorem stmt_f (hv : Short vars 1) {B : Nat} (hB : B ≤ 1000) {x2 b : Int} (hw : wrap64 (x2 - 1) = b) (prev : 0 < x2 → Within s vars b B) (prev0 : 0 < x2 → Within s vars 0 B) : Within s vars x2 (3 * B + 100) := by
  intro i h hc
  refine Ends.step (fun k => by rw [spec_l01Stmt.f]) ?_
  refine Ends.bind (exp2 hv _ _ hc) (fun r hr => ?_)
  obtain ⟨y, i2, h2⟩ := r
  obtain ⟨e2, c2⟩ := hr
  have e2 : y.size ≤ 42 := e2
  refine Ends.below c2 (fun n i3 h3 _ _ c3 => ?_)
  exact Ends.ite (fun _ => stmt_j0 hB hw prev prev0 y e2 _ _ c3) (fun _ => Ends.ite (fun _ => stmt_j0 hB hw prev prev0 y e2 _ _ c3) (fun _ => stmt_j0 hB hw prev prev0 y e2 _ _ c3))
theorem stmt1 (hv : Short vars 1) : Within s vars 1 1000 := by
  have h0 : Within s vars 0 100 := stmt_f hv (B := 0) (by decide) (b := -1) w_none (fun z => absurd z (by decide)) (fun z => absurd z (by decide))
  have h1 : Within s vars 1 400 := stmt_f hv (B := 100) (by decide) (b := 0) w_one (fun _ => h0) (fun _ => h0)
  exact fun i h hc => (h1 i h hc).weak (fun r hr => ⟨Nat.le_trans hr.1 (by decide), hr.2⟩)
end

theorem short4 : Short ([(⟨#[120]⟩ : ByteArray), (⟨#[121]⟩ : ByteArray), (⟨#[122]⟩ : ByteArray), (⟨#[112]⟩ : ByteArray)] : List ByteArray) 1 := ⟨by decide, by decide, by simp [lsz]⟩
theorem prog_loop {s : List Int} (n : Int) (hn : n ≤ 100) (d : Nat) : ∀ (x : ByteArray) (j i h : Int), 0 ≤ j → n ≤ j + d → x.size + 1000 * d ≤ 200000 → Cur s i → Ends (fun k => spec_l01Program.l0 k x n j s i h) (Out s 200012) := by
  induction d with
  | zero =>
    intro x j i h hj hd hx hc
    refine Ends.step (fun k => by rw [spec_l01Program.l0, if_neg (by omega)]) ?_
    refine Ends.once hc (fun q i2 h2 c2 => Ends.ite (fun _ => ?_) (fun _ => ?_))
    · refine Ends.guard (by omega) (Ends.guard (by simp only [ByteArray.size_append, lsz, List.size_toArray, List.length_cons, List.length_nil]; omega) (Ends.done ⟨?_, c2⟩))
      simp only [ByteArray.size_append, lsz, List.size_toArray, List.length_cons, List.length_nil]
      omega
    · refine Ends.guard (by omega) (Ends.done ⟨?_, c2⟩)
      simp only [ByteArray.size_append, lsz, List.size_toArray, List.length_cons, List.length_nil]
      omega
  | succ d ih =>
    intro x j i h hj hd hx hc
    by_cases hlt : j < n
    · have w : wrap64 (j + 1) = j + 1 := wrap_ok (by omega) (by omega)
      have W := Zs0.mk w
      clear w
      refine Ends.step (fun k => by rw [spec_l01Program.l0, if_pos hlt, W.out]) ?_
      refine Ends.bind (stmt1 short4 _ _ hc) (fun r hr => ?_)
      obtain ⟨y, i2, h2⟩ := r
      obtain ⟨e2, c2⟩ := hr
      have e2 : y.size ≤ 1000 := e2
      refine Ends.guard (by show x.size + y.size ≤ _; omega) ?_
      exact ih _ (j + 1) i2 h2 (by omega) (by omega) (by rw [ByteArray.size_append]; omega) c2
    · exact ih x j i h hj (by omega) (by omega) hc
theorem program_ends {s : List Int} (i h : Int) (hc : Cur s i) : Ends (fun k => spec_l01Program.f k s i h) (Out s 200012) := by
  unfold spec_l01Program.f
  refine Ends.pick 1 ⟨by decide, by decide, by simp [lsz]⟩ hc (fun y1 i1 h1 e1 c1 => ?_)
  refine Ends.guard (by show 6 + y1.size ≤ _; omega) (Ends.guard (by simp only [ByteArray.size_append, lsz, List.size_toArray, List.length_cons, List.length_nil]; omega) (?_))
  refine Ends.pick 1 ⟨by decide, by decide, by simp [lsz]⟩ c1 (fun y2 i2 h2 e2 c2 => ?_)
  refine Ends.guard (by simp only [ByteArray.size_append, lsz, List.size_toArray, List.length_cons, List.length_nil]; omega) (Ends.guard (by simp only [ByteArray.size_append, lsz, List.size_toArray, List.length_cons, List.length_nil]; omega) (?_))
  refine Ends.pick 3 ⟨by decide, by decide, by simp [lsz]⟩ c2 (fun y3 i3 h3 e3 c3 => ?_)
  refine Ends.guard (by simp only [ByteArray.size_append, lsz, List.size_toArray, List.length_cons, List.length_nil]; omega) (Ends.guard (by simp only [ByteArray.size_append, lsz, List.size_toArray, List.length_cons, List.length_nil]; omega) (?_))
  refine Ends.pick 5 ⟨by decide, by decide, by simp [lsz]⟩ c3 (fun y4 i4 h4 e4 c4 => ?_)
  refine Ends.guard (by simp only [ByteArray.size_append, lsz, List.size_toArray, List.length_cons, List.length_nil]; omega) (Ends.guard (by simp only [ByteArray.size_append, lsz, List.size_toArray, List.length_cons, List.length_nil]; omega) (?_))
  refine Ends.below c4 (fun n i5 h5 n0 n1 c5 => ?_)
  have n1 := n1 (by decide)
  have w : wrap64 (1 + n) = 1 + n := wrap_ok (by omega) (by omega)
  have W := Zs0.mk w
  clear w
  simp only [W.out]
  refine prog_loop (1 + n) (by omega) 100 _ 0 _ _ (by omega) (by omega) ?_ c5
  simp only [ByteArray.size_append, lsz, List.size_toArray, List.length_cons, List.length_nil]
  omega
theorem spoil_ends {s : List Int} {i h : Int} (x : ByteArray) (hx : x.size ≤ 1000000) (hc : Cur s i) : ∃ y i' h', spec_l01Spoil.f s i h x = some (y, i', h') ∧ y.size ≤ x.size + 12 ∧ Cur s i' := by
  have w : wrap64 ((x.size : Int) + 1) = (x.size : Int) + 1 := wrap_ok (by omega) (by omega)
  unfold spec_l01Spoil.f
  rw [w]
  obtain ⟨n, i1, h1, e1, n0, n1, c1⟩ := below_ends h ((x.size : Int) + 1) hc
  obtain ⟨m, i2, h2, e2, m0, m1, c2⟩ := below_ends h1 6 c1
  have n1 := n1 (by omega)
  obtain ⟨j, rfl⟩ : ∃ j : Nat, n = (j : Int) := ⟨n.toNat, by omega⟩
  simp only [e1, e2, Option.bind_some, Int.toNat_natCast]
  have z1 : (x.extract 0 j).size ≤ x.size := by rw [ByteArray.size_extract]; omega
  have z2 : (x.extract 0 j).size + (x.extract j x.size).size ≤ x.size := by rw [ByteArray.size_extract, ByteArray.size_extract]; omega
  by_cases q0 : m = 0
  · rw [if_pos q0, if_pos n0, if_pos (by omega)]
    exact ⟨_, _, _, rfl, by omega, c2⟩
  rw [if_neg q0]
  by_cases q1 : m = 1
  · rw [if_pos q1, if_pos n0, if_pos (by omega)]
    obtain ⟨y, i3, h3, e3, y0, c3⟩ := pick_ends (h := h2) (l := [(⟨#[32]⟩ : ByteArray), (⟨#[48]⟩ : ByteArray), (⟨#[113]⟩ : ByteArray), (⟨#[10]⟩ : ByteArray), (⟨#[33]⟩ : ByteArray), (⟨#[40]⟩ : ByteArray), (⟨#[32, 61, 32]⟩ : ByteArray), (⟨#[125]⟩ : ByteArray), (⟨#[59, 32, 108, 101, 116, 32, 119, 32, 61, 32, 49]⟩ : ByteArray)]) 11 ⟨by decide, by decide, by simp [lsz]⟩ c2
    simp only [e3, Option.bind_some]
    rw [if_pos (by omega), if_pos (by rw [ByteArray.size_append]; omega)]
    exact ⟨_, _, _, rfl, by rw [ByteArray.size_append, ByteArray.size_append]; omega, c3⟩
  · rw [if_neg q1]
    exact ⟨_, _, _, rfl, by omega, c2⟩

theorem new_loop {s : List Int} (hs : s.length ≤ 1048576) (d : Nat) : ∀ (h j : Int), 0 ≤ j → 4000 ≤ j + d → ∃ h', Ev (fun k => spec_l01New.l0 k s h j) (s, 0, h') := by
  induction d with
  | zero =>
    intro h j h0 h1
    refine ⟨h, ?_⟩
    by_cases hl : j < (s.length : Int)
    · exact Ev.step (f := fun _ => some (s, 0, h)) (fun k => by rw [spec_l01New.l0, if_pos hl, if_neg (by omega)]) (Ev.now _)
    · exact Ev.step (f := fun _ => some (s, 0, h)) (fun k => by rw [spec_l01New.l0, if_neg hl]) (Ev.now _)
  | succ d ih =>
    intro h j h0 h1
    by_cases hl : j < (s.length : Int)
    · by_cases h4 : j < 4000
      · have w : wrap64 (j + 1) = j + 1 := wrap_ok (by omega) (by omega)
        obtain ⟨h', e⟩ := ih (Go.bits .and .i64 (wrap64 ((wrap64 ((wrap64 (h * 131)) + (wrap64 (rd s j)))) + 7)) 1073741823) (j + 1) (by omega) (by omega)
        exact ⟨h', Ev.step (fun k => by rw [spec_l01New.l0, if_pos hl, if_pos h4, if_pos h0, w]) e⟩
      · exact ⟨h, Ev.step (f := fun _ => some (s, 0, h)) (fun k => by rw [spec_l01New.l0, if_pos hl, if_neg h4]) (Ev.now _)⟩
    · exact ⟨h, Ev.step (f := fun _ => some (s, 0, h)) (fun k => by rw [spec_l01New.l0, if_neg hl]) (Ev.now _)⟩
section
variable {s : List Int} (hs : s.length ≤ 1048576)
include hs
theorem new_ends : ∃ h', Ev (fun k => spec_l01New.f k s) (s, 0, h') := new_loop hs 4000 _ 0 (by omega) (by omega)
theorem cur0 : Cur s 0 := ⟨hs, by omega, by omega⟩
theorem drawIsWord_ends : Ends (fun k => spec_DrawIsWord.f k s) (fun r => r.size ≤ 300000) := by
  obtain ⟨h, e⟩ := new_ends hs
  unfold spec_DrawIsWord.f
  exact Ends.bind ⟨_, e, rfl⟩ (fun r hr => by subst hr; exact Ends.pick 8 ⟨by decide, by decide, by simp [lsz]⟩ (cur0 hs) (fun x i2 h2 e2 c2 => Ends.done (Nat.le_trans e2 (by decide))))
theorem drawNameOk_ends : Ends (fun k => spec_DrawNameOk.f k s) (fun r => r.size ≤ 300000) := by
  obtain ⟨h, e⟩ := new_ends hs
  unfold spec_DrawNameOk.f
  exact Ends.bind ⟨_, e, rfl⟩ (fun r hr => by subst hr; exact Ends.pick 9 ⟨by decide, by decide, by simp [lsz]⟩ (cur0 hs) (fun x i2 h2 e2 c2 => Ends.done (Nat.le_trans e2 (by decide))))
theorem drawDecText_ends : Ends (fun k => spec_DrawDecText.f k s) I64 := by
  obtain ⟨h, e⟩ := new_ends hs
  unfold spec_DrawDecText.f
  refine Ends.bind ⟨_, e, rfl⟩ (fun r hr => ?_)
  subst hr
  refine Ends.below (cur0 hs) (fun n i2 h2 n0 n1 c2 => ?_)
  have n1 := n1 (by decide)
  obtain ⟨x, i3, h3, e3, x3, c3⟩ := pickInt_ends (h := h2) (l := [0, (-1), 10, 9223372036854775807, (-9223372036854775808), n]) I64 (by simp) (by simp [I64]; omega) c2
  exact Ends.const e3 (Ends.done x3)
theorem drawReadInt_ends : Ends (fun k => spec_DrawReadInt.f k s) (fun r => r.size ≤ 300000) := by
  obtain ⟨h, e⟩ := new_ends hs
  unfold spec_DrawReadInt.f
  refine Ends.bind ⟨_, e, rfl⟩ (fun r hr => ?_)
  subst hr
  refine Ends.once (cur0 hs) (fun b i1 h1 c1 => Ends.ite (fun _ => ?_) (fun _ => ?_))
  · exact Ends.pick 8 ⟨by decide, by decide, by simp [lsz]⟩ c1 (fun x i2 h2 e2 c2 => Ends.done (Nat.le_trans e2 (by decide)))
  · refine Ends.below c1 (fun n i2 h2 n0 n1 c2 => ?_)
    have n1 := n1 (by decide)
    have w : wrap64 (n - 50000) = n - 50000 := wrap_ok (by omega) (by omega)
    have hI : I64 (n - 50000) := ⟨by omega, by omega⟩
    simp only [w]
    exact Ends.bind ⟨_, dt_ev hI, rfl⟩ (fun r hr => by subst hr; exact Ends.done (Nat.le_trans (dt_size hI) (by decide)))
theorem words_draw (n : Int) (hn : n ≤ 6) (d : Nat) : ∀ (x : ByteArray) (j i h : Int), 0 ≤ j → n ≤ j + d → x.size + 2 * d ≤ 1000 → Cur s i → Ends (fun k => spec_DrawWords.l0 k x n j s i h) (fun r => r.size ≤ 300000) := by
  induction d with
  | zero =>
    intro x j i h h0 h1 hx hc
    exact Ends.step (f := fun _ => some x) (fun k => by rw [spec_DrawWords.l0, if_neg (by omega)]) (Ends.done (by omega))
  | succ d ih =>
    intro x j i h h0 h1 hx hc
    by_cases hlt : j < n
    · have w : wrap64 (j + 1) = j + 1 := wrap_ok (by omega) (by omega)
      have W := Zs0.mk w
      clear w
      refine Ends.step (fun k => by rw [spec_DrawWords.l0, if_pos hlt, W.out]) ?_
      refine Ends.pick 2 ⟨by decide, by decide, by simp [lsz]⟩ hc (fun y i2 h2 e2 c2 => ?_)
      refine Ends.guard (by show x.size + y.size ≤ _; omega) ?_
      exact ih _ (j + 1) i2 h2 (by omega) (by omega) (by show (x ++ y).size + 2 * d ≤ 1000; rw [ByteArray.size_append]; omega) c2
    · exact ih x j i h h0 (by omega) (by omega) hc
theorem drawWords_ends : Ends (fun k => spec_DrawWords.f k s) (fun r => r.size ≤ 300000) := by
  obtain ⟨h, e⟩ := new_ends hs
  unfold spec_DrawWords.f
  refine Ends.bind ⟨_, e, rfl⟩ (fun r hr => ?_)
  subst hr
  refine Ends.below (cur0 hs) (fun n i2 h2 n0 n1 c2 => ?_)
  have n1 := n1 (by decide)
  exact words_draw hs n (by omega) 6 _ 0 _ _ (by omega) (by omega) (by decide) c2
theorem lex_draw (d : Nat) : ∀ (x : ByteArray) (i h : Int), 3002 ≤ x.size + d → x.size ≤ 300000 → Cur s i → Ends (fun k => spec_DrawLex.l0 k x s i h) (fun r => r.size ≤ 300000) := by
  induction d with
  | zero =>
    intro x i h h0 hx hc
    refine Ends.step (fun k => by rw [spec_DrawLex.l0]) ?_
    refine Ends.below hc (fun n i2 h2 n0 n1 c2 => ?_)
    have n1 := n1 (by decide)
    have w : wrap64 (3000 + n) = 3000 + n := wrap_ok (by omega) (by omega)
    simp only [w]
    exact Ends.ite (fun z => absurd z (by clear w; omega)) (fun _ => Ends.done hx)
  | succ d ih =>
    intro x i h h0 hx hc
    by_cases hl : 3002 ≤ x.size + d
    · exact ih x i h hl hx hc
    refine Ends.step (fun k => by rw [spec_DrawLex.l0]) ?_
    refine Ends.below hc (fun n i2 h2 n0 n1 c2 => ?_)
    refine Ends.ite (fun _ => Ends.guard (by omega) ?_) (fun _ => Ends.done hx)
    exact ih _ i2 h2 (by simp only [ByteArray.size_append, lsz, List.size_toArray, List.length_cons, List.length_nil]; omega) (by simp only [ByteArray.size_append, lsz, List.size_toArray, List.length_cons, List.length_nil]; omega) c2
theorem drawLex_ends : Ends (fun k => spec_DrawLex.f k s) (fun r => r.size ≤ 300000) := by
  obtain ⟨h, e⟩ := new_ends hs
  unfold spec_DrawLex.f
  refine Ends.bind ⟨_, e, rfl⟩ (fun r hr => ?_)
  subst hr
  refine Ends.bind (program_ends _ _ (cur0 hs)) (fun r hr => ?_)
  obtain ⟨y, i1, h1⟩ := r
  obtain ⟨e1, c1⟩ := hr
  have e1 : y.size ≤ 200012 := e1
  refine Ends.below c1 (fun n i2 h2 _ _ c2 => ?_)
  refine Ends.ite (fun _ => ?_) (fun _ => Ends.ite (fun _ => ?_) (fun _ => Ends.ite (fun _ => ?_) (fun _ => ?_)))
  · obtain ⟨z, i3, h3, e3, z3, c3⟩ := spoil_ends (h := h2) y (by omega) c2
    exact Ends.const e3 (Ends.done (by show z.size ≤ _; omega))
  · exact lex_draw hs 3002 y _ _ (by omega) (by omega) c2
  · refine Ends.pick 10 ⟨by decide, by decide, by simp [lsz]⟩ c2 (fun x i3 h3 e3 c3 => ?_)
    refine Ends.guard (by show y.size + x.size ≤ _; omega) (Ends.done ?_)
    show (y ++ x).size ≤ _
    rw [ByteArray.size_append]
    omega
  · exact Ends.done (by show y.size ≤ _; omega)
end
end Go.Proofs.YtbihpjngmjkjmaaDoor.Dec
