/- Functions of the program and of the reference as plain functions, and that the Go code comes to their answers; several texts in one. No conditions beyond what each theorem says. -/
import Derived.Test.YtjcggilkfofiaaaMVarsOf0a
namespace Go.Proofs.Ytjcggilkfofiaaa.Aux
open Go.RowKit Go.Proofs.YtjcggilkfofiaaaW.PrintWords
theorem wrap_ok {i : Int} (h0 : -9223372036854775808 ≤ i) (h : i ≤ 9223372036854775807) : wrap64 i = i := by
  unfold wrap64
  omega
theorem rd_lt (xs : List Int) (i : Nat) (h : i < xs.length) : rd xs (i : Int) = xs[i] := by
  simp [rd, List.getD_eq_getElem?_getD, List.getElem?_eq_getElem h]
theorem Ev.ite_pos {α : Type} {p : Prop} [Decidable p] {f g : Nat → Option α} {r : α} (hp : p) (h : Ev f r) : Ev (fun k => if p then f k else g k) r := by
  simp only [if_pos hp]
  exact h
theorem Ev.ite_neg {α : Type} {p : Prop} [Decidable p] {f g : Nat → Option α} {r : α} (hp : ¬ p) (h : Ev g r) : Ev (fun k => if p then f k else g k) r := by
  simp only [if_neg hp]
  exact h
/-- A function without rounds. -/
theorem Ev.const {α β : Type} {o : Option α} {f : Nat → α → Option β} {a : α} {r : β} (h : o = some a) (k : Ev (fun n => f n a) r) : Ev (fun n => o.bind (f n)) r := by
  subst h
  exact k
/-- A loop that holds two rows of numbers against each other, by the equation of its round. -/
theorem eqInts_loop (G : Nat → List Int → List Int → Int → Option Bool)
    (hG : ∀ k x0 x1 i, G (k + 1) x0 x1 i = if i < (x0.length : Int) then (if 0 ≤ i then (if i < (x1.length : Int) then (if (rd x0 i) = (rd x1 i) then G k x0 x1 (wrap64 (i + 1)) else some false) else none) else none) else some true)
    (xs ys : List Int) (hl : xs.length = ys.length) (hn : xs.length < 9223372036854775807) (d : Nat) : ∀ i : Nat, i + d = xs.length → Ev (fun k => G k xs ys (i : Int)) (decide (xs.drop i = ys.drop i)) := by
  induction d with
  | zero =>
    intro i hi
    refine Ev.step (fun k => by rw [hG, if_neg (by omega)]) ?_
    rw [List.drop_eq_nil_of_le (by omega), List.drop_eq_nil_of_le (by omega)]
    exact Ev.now _
  | succ d ih =>
    intro i hi
    have hx : xs.drop i = xs[i]'(by omega) :: xs.drop (i + 1) := List.drop_eq_getElem_cons (by omega)
    have hy : ys.drop i = ys[i]'(by omega) :: ys.drop (i + 1) := List.drop_eq_getElem_cons (by omega)
    have r1 := rd_lt xs i (by omega)
    have r2 := rd_lt ys i (by omega)
    rw [hx, hy]
    by_cases h : xs[i]'(by omega) = ys[i]'(by omega)
    · refine Ev.step (fun k => by rw [hG, if_pos (by omega), if_pos (by omega), if_pos (by omega), r1, r2, if_pos h, wrap_ok (by omega) (by omega)]) ?_
      simp only [List.cons.injEq, h, true_and]
      exact ih (i + 1) (by omega)
    · refine Ev.step (f := fun _ => some false) (fun k => by rw [hG, if_pos (by omega), if_pos (by omega), if_pos (by omega), r1, r2, if_neg h]) ?_
      simp only [List.cons.injEq, h, false_and, decide_false]
      exact Ev.now _
/-- One round of a loop that writes a row anew, element by element. -/
theorem set_fill {α β : Type} (xs : List α) (g : α → β) (z : β) (i : Nat) (h : i < xs.length) :
    ((xs.take i).map g ++ List.replicate (xs.length - i) z).set i (g xs[i]) = (xs.take (i + 1)).map g ++ List.replicate (xs.length - (i + 1)) z := by
  have hr : List.replicate (xs.length - i) z = z :: List.replicate (xs.length - (i + 1)) z := by
    rw [show xs.length - i = (xs.length - (i + 1)) + 1 by omega, List.replicate_succ]
  rw [List.set_append_right _ _ (by simp; omega), hr, List.take_succ_eq_append_getElem h, List.map_append, List.length_map, List.length_take, show i - min i xs.length = 0 by omega]
  simp only [List.set_cons_zero, List.map_cons, List.map_nil, List.append_assoc, List.cons_append, List.nil_append]
theorem fill_length {α β : Type} (xs : List α) (g : α → β) (z : β) (i : Nat) (h : i ≤ xs.length) : ((xs.take i).map g ++ List.replicate (xs.length - i) z).length = xs.length := by
  simp
  omega
theorem eqInts_ev (F : Nat → List Int → List Int → Option Bool) (G : Nat → List Int → List Int → Int → Option Bool) (hF : ∀ k x0 x1, F k x0 x1 = if (x0.length : Int) = (x1.length : Int) then G k x0 x1 0 else some false)
    (hG : ∀ k x0 x1 i, G (k + 1) x0 x1 i = if i < (x0.length : Int) then (if 0 ≤ i then (if i < (x1.length : Int) then (if (rd x0 i) = (rd x1 i) then G k x0 x1 (wrap64 (i + 1)) else some false) else none) else none) else some true)
    (xs ys : List Int) (hn : xs.length < 9223372036854775807) : Ev (fun k => F k xs ys) (decide (xs = ys)) := by
  by_cases h : xs.length = ys.length
  · refine Ev.congr (fun k => by rw [hF, if_pos (by omega)]) ?_
    exact eqInts_loop G hG xs ys h hn xs.length 0 (by omega)
  · refine Ev.congr (f := fun _ => some false) (fun k => by rw [hF, if_neg (by omega)]) ?_
    rw [decide_eq_false (fun e => h (by rw [e]))]
    exact Ev.now _
/-- m, m + 1, .. : n numbers. -/
def seqFrom (m : Int) : Nat → List Int
  | 0 => []
  | n + 1 => m :: seqFrom (m + 1) n
theorem seqFrom_length (n : Nat) : ∀ m, (seqFrom m n).length = n := by
  induction n with
  | zero => intro m; rfl
  | succ n ih => intro m; simp [seqFrom, ih]
theorem markInts_loop (G : Nat → List Int → Int → Int → Option (Int × List Int))
    (hG : ∀ k x0 x1 i, G (k + 1) x0 x1 i = if i < (x0.length : Int) then (if 0 ≤ i then G k (x0.set (i : Int).toNat x1) (wrap64 (x1 + 1)) (wrap64 (i + 1)) else none) else some (x1, x0))
    (d : Nat) : ∀ (xs : List Int) (i : Nat) (m : Int), i + d = xs.length → 0 ≤ m → m + d < 4611686018427387904 → xs.length < 4611686018427387904 → Ev (fun k => G k xs m (i : Int)) (m + d, xs.take i ++ seqFrom m d) := by
  induction d with
  | zero =>
    intro xs i m hi h0 hm hn
    refine Ev.step (fun k => by rw [hG, if_neg (by omega)]) ?_
    rw [List.take_of_length_le (by omega)]
    rw [show m + ((0 : Nat) : Int) = m by omega, seqFrom, List.append_nil]
    exact Ev.now _
  | succ d ih =>
    intro xs i m hi h0 hm hn
    refine Ev.step (fun k => by rw [hG, if_pos (by omega), if_pos (by omega), wrap_ok (i := m + 1) (by omega) (by omega), wrap_ok (i := (i : Int) + 1) (by omega) (by omega), Int.toNat_natCast]) ?_
    have h := ih (xs.set i m) (i + 1) (m + 1) (by simp; omega) (by omega) (by omega) (by simpa using hn)
    have e1 : (m + ((d + 1 : Nat) : Int), xs.take i ++ seqFrom m (d + 1)) = (m + 1 + (d : Int), (xs.set i m).take (i + 1) ++ seqFrom (m + 1) d) := by
      rw [List.take_succ_eq_append_getElem (by simp; omega), List.getElem_set_self, List.take_set_of_le (by omega)]
      simp only [seqFrom, List.append_assoc, List.cons_append, List.nil_append, Prod.mk.injEq, and_true]
      omega
    rw [e1]
    exact h
theorem markInts_ev (F : Nat → List Int → Int → Option (Int × List Int)) (G : Nat → List Int → Int → Int → Option (Int × List Int)) (hF : ∀ k x0 x1, F k x0 x1 = G k x0 x1 0)
    (hG : ∀ k x0 x1 i, G (k + 1) x0 x1 i = if i < (x0.length : Int) then (if 0 ≤ i then G k (x0.set (i : Int).toNat x1) (wrap64 (x1 + 1)) (wrap64 (i + 1)) else none) else some (x1, x0))
    (xs : List Int) (m : Int) (h0 : 0 ≤ m) (hm : m + xs.length < 4611686018427387904) : Ev (fun k => F k xs m) (m + xs.length, seqFrom m xs.length) := by
  have h := markInts_loop G hG xs.length xs 0 m (by omega) h0 hm (by omega)
  exact Ev.congr (fun k => hF k xs m) (by simpa using h)
theorem heldInts_loop (G : Nat → List Int → Int → Int → Option Int)
    (hG : ∀ k x0 x1 i, G (k + 1) x0 x1 i = if i < (x0.length : Int) then (if 0 ≤ i then (if (rd x0 i) = x1 then G k x0 (wrap64 (x1 + 1)) (wrap64 (i + 1)) else some (-1)) else none) else some x1)
    (xs : List Int) (hn : xs.length < 4611686018427387904) (d : Nat) : ∀ (i : Nat) (m : Int), i + d = xs.length → 0 ≤ m → m + d < 4611686018427387904 → xs.drop i = seqFrom m d → Ev (fun k => G k xs m (i : Int)) (m + d) := by
  induction d with
  | zero =>
    intro i m hi h0 hm he
    refine Ev.step (fun k => by rw [hG, if_neg (by omega)]) ?_
    rw [show m + ((0 : Nat) : Int) = m by omega]
    exact Ev.now _
  | succ d ih =>
    intro i m hi h0 hm he
    have hx : xs.drop i = xs[i]'(by omega) :: xs.drop (i + 1) := List.drop_eq_getElem_cons (by omega)
    rw [hx, seqFrom] at he
    injection he with e1 e2
    have r1 := rd_lt xs i (by omega)
    refine Ev.step (fun k => by rw [hG, if_pos (by omega), if_pos (by omega), r1, if_pos e1, wrap_ok (i := m + 1) (by omega) (by omega), wrap_ok (i := (i : Int) + 1) (by omega) (by omega)]) ?_
    have h := ih (i + 1) (m + 1) (by omega) (by omega) (by omega) e2
    rw [show m + ((d + 1 : Nat) : Int) = m + 1 + (d : Int) by omega]
    exact h
theorem heldInts_ev (F : Nat → List Int → Int → Option Int) (G : Nat → List Int → Int → Int → Option Int) (hF : ∀ k x0 x1, F k x0 x1 = G k x0 x1 0)
    (hG : ∀ k x0 x1 i, G (k + 1) x0 x1 i = if i < (x0.length : Int) then (if 0 ≤ i then (if (rd x0 i) = x1 then G k x0 (wrap64 (x1 + 1)) (wrap64 (i + 1)) else some (-1)) else none) else some x1)
    (m : Int) (n : Nat) (h0 : 0 ≤ m) (hm : m + n < 4611686018427387904) : Ev (fun k => F k (seqFrom m n) m) (m + n) := by
  have h := heldInts_loop G hG (seqFrom m n) (by rw [seqFrom_length]; omega) n 0 m (by rw [seqFrom_length]; omega) h0 hm rfl
  exact Ev.congr (fun k => hF k _ m) h
/-- The text of a mark: some text, always the same for the same number. -/
theorem markText_loop (G : Nat → Int → ByteArray → Option ByteArray)
    (hG : ∀ k x0 x3, G (k + 1) x0 x3 = if x0 > 0 then ((some (([(wrap64 (48 + (Int.tmod x0 10))) % 256] : List Int) : List Int)).bind fun y => (if (strOfNums y).size + x3.size ≤ 9223372036854775807 then G k (wrap64 (Int.tdiv x0 10)) ((strOfNums y) ++ x3) else none)) else (if 1 + x3.size ≤ 9223372036854775807 then some ((⟨#[109]⟩ : ByteArray) ++ x3) else none))
    (d : Nat) : ∀ (n : Int) (s : ByteArray), 0 ≤ n → n < 10 ^ d → n ≤ 9223372036854775807 → s.size + d < 4611686018427387904 → ∃ r, Ev (fun k => G k n s) r := by
  induction d with
  | zero =>
    intro n s h0 h1 h2 h3
    have : n = 0 := by simp at h1; omega
    exact ⟨_, Ev.step (fun k => by rw [hG, if_neg (by omega), if_pos (by omega)]) (Ev.now _)⟩
  | succ d ih =>
    intro n s h0 h1 h2 h3
    by_cases hp : n > 0
    · have hs : (strOfNums ([(wrap64 (48 + (Int.tmod n 10))) % 256] : List Int)).size = 1 := by simp [strOfNums, ByteArray.size]
      have hq : Int.tdiv n 10 = n / 10 := Int.tdiv_eq_ediv_of_nonneg h0
      have hlt : n / 10 < 10 ^ d := by
        rw [Int.pow_succ] at h1
        exact Int.ediv_lt_of_lt_mul (by omega) h1
      obtain ⟨r, hr⟩ := ih (n / 10) (strOfNums ([(wrap64 (48 + (Int.tmod n 10))) % 256] : List Int) ++ s) (by omega) hlt (by omega) (by rw [ByteArray.size_append, hs]; omega)
      refine ⟨r, Ev.step (fun k => ?_) hr⟩
      rw [hG, if_pos hp, Option.bind_some, if_pos (by rw [hs]; omega), hq, wrap_ok (by omega) (by omega)]
    · exact ⟨_, Ev.step (fun k => by rw [hG, if_neg hp, if_pos (by omega)]) (Ev.now _)⟩
theorem markText_ev (F : Nat → Int → Option ByteArray) (G : Nat → Int → ByteArray → Option ByteArray) (hF : ∀ k n, F k n = if n ≤ 0 then (some (⟨#[109, 48]⟩ : ByteArray)) else G k n (⟨#[]⟩ : ByteArray))
    (hG : ∀ k x0 x3, G (k + 1) x0 x3 = if x0 > 0 then ((some (([(wrap64 (48 + (Int.tmod x0 10))) % 256] : List Int) : List Int)).bind fun y => (if (strOfNums y).size + x3.size ≤ 9223372036854775807 then G k (wrap64 (Int.tdiv x0 10)) ((strOfNums y) ++ x3) else none)) else (if 1 + x3.size ≤ 9223372036854775807 then some ((⟨#[109]⟩ : ByteArray) ++ x3) else none))
    (n : Int) (hn : n ≤ 9223372036854775807) : ∃ r, Ev (fun k => F k n) r := by
  by_cases h : n ≤ 0
  · exact ⟨_, Ev.congr (fun k => by rw [hF, if_pos h]) (Ev.now _)⟩
  · obtain ⟨r, hr⟩ := markText_loop G hG 20 n (⟨#[]⟩ : ByteArray) (by omega) (by omega) hn (by simp [ByteArray.size])
    exact ⟨r, Ev.congr (fun k => by rw [hF, if_neg h]) hr⟩
end Go.Proofs.Ytjcggilkfofiaaa.Aux
namespace Go.Proofs.Ytjcggilkfofiaaa.Ex
open Go.RowKit Go.Proofs.Ytjcggilkfofiaaa.P Go.Proofs.YtjcggilkfofiaaaW.PrintWords Go.Proofs.Ytjcggilkfofiaaa.Aux
set_option linter.unusedVariables false
set_option linter.unusedSimpArgs false
mutual
/-- The program's own expression out of the law's. -/
def toE : S24 → S29
  | ⟨a, b, c, s, ks⟩ => ⟨a, b, c, s, toEs ks⟩
def toEs : List S24 → List S29
  | [] => []
  | x :: xs => toE x :: toEs xs
end
theorem toEs_map : ∀ l : List S24, toEs l = l.map toE
  | [] => rfl
  | x :: xs => by rw [toEs, toEs_map xs]; rfl
mutual
/-- How great an expression is: its texts' signs and its parts. -/
def szE : S24 → Nat
  | ⟨_, _, _, s, ks⟩ => s.size + szEs ks
def szEs : List S24 → Nat
  | [] => 0
  | x :: xs => 1 + szE x + szEs xs
end
mutual
/-- Texts are as long as a machine holds them, rows too. -/
def okE : S24 → Prop
  | ⟨_, _, _, s, ks⟩ => s.size ≤ maxLen ∧ ks.length ≤ maxLen ∧ okEs ks
def okEs : List S24 → Prop
  | [] => True
  | x :: xs => okE x ∧ okEs xs
end
mutual
def okB : S24 → Bool
  | ⟨_, _, _, s, ks⟩ => decide (s.size ≤ maxLen) && decide (ks.length ≤ maxLen) && okBs ks
def okBs : List S24 → Bool
  | [] => true
  | x :: xs => okB x && okBs xs
end
mutual
theorem okB_iff : ∀ x : S24, okB x = true ↔ okE x
  | ⟨a, b, c, s, ks⟩ => by rw [okB, okE, ← okBs_iff ks]; simp only [Bool.and_eq_true, decide_eq_true_eq, and_assoc]
theorem okBs_iff : ∀ l : List S24, okBs l = true ↔ okEs l
  | [] => by rw [okBs, okEs]; simp
  | x :: xs => by rw [okBs, okEs, Bool.and_eq_true, okB_iff x, okBs_iff xs]
end
theorem okEs_mem : ∀ {l : List S24}, okEs l → ∀ x ∈ l, okE x
  | [], _, x, h => by cases h
  | y :: ys, h, x, hx => by
    rw [okEs] at h
    rcases List.mem_cons.1 hx with rfl | hx
    · exact h.1
    · exact okEs_mem h.2 x hx
mutual
def eqE : S29 → S29 → Bool
  | ⟨a, b, c, s, ks⟩, y => decide (a = y.f0) && decide (b = y.f1) && decide (c = y.f2) && decide (s.toList = y.f3.toList) && eqEs ks y.f4
def eqEs : List S29 → List S29 → Bool
  | [], [] => true
  | x :: xs, y :: ys => eqE x y && eqEs xs ys
  | _, _ => false
end
theorem eqE_eq (x y : S29) : eqE x y = (decide (x.f0 = y.f0) && decide (x.f1 = y.f1) && decide (x.f2 = y.f2) && decide (x.f3.toList = y.f3.toList) && eqEs x.f4 y.f4) := by
  cases x
  rw [eqE]
mutual
theorem eqE_refl : ∀ x : S29, eqE x x = true
  | ⟨a, b, c, s, ks⟩ => by rw [eqE_eq]; simp [eqEs_refl ks]
theorem eqEs_refl : ∀ l : List S29, eqEs l l = true
  | [] => by rw [eqEs]
  | x :: xs => by rw [eqEs, eqE_refl x, eqEs_refl xs]; rfl
end
theorem eqEs_len : ∀ {l m : List S29}, eqEs l m = true → l.length = m.length
  | [], [], _ => rfl
  | [], _ :: _, h => by rw [eqEs] at h; cases h; all_goals simp
  | _ :: _, [], h => by rw [eqEs] at h; cases h; all_goals simp
  | x :: xs, y :: ys, h => by
    rw [eqEs, Bool.and_eq_true] at h
    simp [eqEs_len h.2]
mutual
/-- An expression and all within it. -/
def preE : S29 → List S29
  | ⟨a, b, c, s, ks⟩ => ⟨a, b, c, s, ks⟩ :: preEs ks
def preEs : List S29 → List S29
  | [] => []
  | x :: xs => preE x ++ preEs xs
end
theorem preE_eq (x : S29) : preE x = x :: preEs x.f4 := by
  cases x
  rw [preE]
theorem kid_lt {x : S29} {k : S29} (h : k ∈ x.f4) : SizeOf.sizeOf k < SizeOf.sizeOf x := by
  have := List.sizeOf_lt_of_mem h
  cases x
  simp at *
  omega
theorem kidL_lt {x : S24} {k : S24} (h : k ∈ x.f4) : SizeOf.sizeOf k < SizeOf.sizeOf x := by
  have := List.sizeOf_lt_of_mem h
  cases x
  simp at *
  omega
theorem szEs_drop (l : List S24) (i : Nat) (h : i < l.length) : szEs (l.drop i) = 1 + szE l[i] + szEs (l.drop (i + 1)) := by
  rw [List.drop_eq_getElem_cons h, szEs]
theorem szEs_len : ∀ l : List S24, l.length ≤ szEs l
  | [] => Nat.zero_le _
  | x :: xs => by have := szEs_len xs; rw [szEs, List.length_cons]; omega
/-- What is left of a number. -/
def lftE (a : Int) (n : Nat) : Int := if (n : Int) ≤ a then a - n else -1
theorem lftE_zero {a : Int} (h : 0 ≤ a) : lftE a 0 = a := by
  unfold lftE
  rw [if_pos (by omega)]
  omega
theorem lftE_yes {a : Int} {n : Nat} (h : (n : Int) ≤ a) : lftE a n = a - n := if_pos h
theorem lftE_no {a : Int} {n : Nat} (h : ¬ (n : Int) ≤ a) : lftE a n = -1 := if_neg h
theorem lftE_add {a : Int} {n m : Nat} (h : (n : Int) ≤ a) : lftE (a - n) m = lftE a (n + m) := by
  unfold lftE
  by_cases h2 : (m : Int) ≤ a - n
  · rw [if_pos h2, if_pos (by omega)]
    omega
  · rw [if_neg h2, if_neg (by omega)]
theorem rd_LE (l : List S24) (i : Nat) (h : i < l.length) : rd_T24 l (i : Int) = l[i] := by
  simp [rd_T24, List.getD_eq_getElem?_getD, List.getElem?_eq_getElem h]
theorem rd_IE (l : List S29) (i : Nat) (h : i < l.length) : rd_T29 l (i : Int) = l[i] := by
  simp [rd_T29, List.getD_eq_getElem?_getD, List.getElem?_eq_getElem h]
/-- The parts' own size. -/
def szR : List S24 → Nat
  | [] => 0
  | x :: xs => szE x + szR xs
theorem szEs_szR : ∀ l : List S24, szEs l = l.length + szR l
  | [] => rfl
  | x :: xs => by rw [szEs, szR, szEs_szR xs, List.length_cons]; omega
theorem szR_mem : ∀ {l : List S24} {x : S24}, x ∈ l → szE x ≤ szR l
  | y :: ys, x, h => by
    rw [szR]
    rcases List.mem_cons.1 h with rfl | h
    · omega
    · have := szR_mem h; omega
theorem toEs_len (l : List S24) : (toEs l).length = l.length := by rw [toEs_map, List.length_map]
mutual
/-- How many parts an expression has. -/
def nE : S29 → Nat
  | ⟨_, _, _, _, ks⟩ => 1 + nEs ks
def nEs : List S29 → Nat
  | [] => 0
  | x :: xs => nE x + nEs xs
end
theorem nE_eq (x : S29) : nE x = 1 + nEs x.f4 := by
  cases x
  rw [nE]
theorem nEs_len : ∀ l : List S29, l.length ≤ nEs l
  | [] => Nat.zero_le _
  | x :: xs => by have := nEs_len xs; have := nE_eq x; rw [nEs, List.length_cons]; omega
theorem nEs_mem : ∀ {l : List S29} {x : S29}, x ∈ l → nE x ≤ nEs l
  | y :: ys, x, h => by
    rw [nEs]
    rcases List.mem_cons.1 h with rfl | h
    · omega
    · have := nEs_mem h; omega
mutual
theorem nE_toE : ∀ x : S24, nE (toE x) ≤ 1 + szE x
  | ⟨a, b, c, s, ks⟩ => by rw [toE, nE, szE]; have := nEs_toEs ks; omega
theorem nEs_toEs : ∀ l : List S24, nEs (toEs l) ≤ szEs l
  | [] => by rw [toEs, nEs]; exact Nat.zero_le _
  | x :: xs => by rw [toEs, nEs, szEs]; have := nE_toE x; have := nEs_toEs xs; omega
end
mutual
theorem preE_len : ∀ x : S29, (preE x).length = nE x
  | ⟨a, b, c, s, ks⟩ => by rw [preE, nE, List.length_cons, preEs_len ks]; omega
theorem preEs_len : ∀ l : List S29, (preEs l).length = nEs l
  | [] => by rw [preEs, nEs]; rfl
  | x :: xs => by rw [preEs, nEs, List.length_append, preE_len x, preEs_len xs]
end
theorem szE_eq (x : S24) : szE x = x.f3.size + szEs x.f4 := by
  cases x
  rw [szE]
theorem toE_eq (x : S24) : toE x = ⟨x.f0, x.f1, x.f2, x.f3, toEs x.f4⟩ := by
  cases x
  rw [toE]
theorem okE_eq (x : S24) : okE x ↔ x.f3.size ≤ maxLen ∧ x.f4.length ≤ maxLen ∧ okEs x.f4 := by
  cases x
  rw [okE]
theorem okEs_of : ∀ {l : List S24}, (∀ x ∈ l, okE x) → okEs l
  | [], _ => by rw [okEs]; trivial
  | x :: xs, h => by rw [okEs]; exact ⟨h x List.mem_cons_self, okEs_of fun y hy => h y (List.mem_cons_of_mem _ hy)⟩
end Go.Proofs.Ytjcggilkfofiaaa.Ex
namespace Go.Proofs.Ytjcggilkfofiaaa.Ex
open Go.RowKit Go.Proofs.Ytjcggilkfofiaaa.P Go.Proofs.YtjcggilkfofiaaaW.PrintWords Go.Proofs.Ytjcggilkfofiaaa.Aux
set_option linter.unusedVariables false
set_option linter.unusedSimpArgs false
mutual
def toS : S76 → S62
  | ⟨a, b, c, es, x, y⟩ => ⟨a, b, c, toEs es, toSs x, toSs y⟩
def toSs : List S76 → List S62
  | [] => []
  | x :: xs => toS x :: toSs xs
end
theorem toSs_map : ∀ l : List S76, toSs l = l.map toS
  | [] => rfl
  | x :: xs => by rw [toSs, toSs_map xs]; rfl
theorem toS_eq (x : S76) : toS x = ⟨x.f0, x.f1, x.f2, toEs x.f3, toSs x.f4, toSs x.f5⟩ := by
  cases x
  rw [toS]
mutual
def szS : S76 → Nat
  | ⟨_, _, _, es, x, y⟩ => szEs es + szSs x + szSs y
def szSs : List S76 → Nat
  | [] => 0
  | x :: xs => 1 + szS x + szSs xs
end
theorem szS_eq (x : S76) : szS x = szEs x.f3 + szSs x.f4 + szSs x.f5 := by
  cases x
  rw [szS]
def szSR : List S76 → Nat
  | [] => 0
  | x :: xs => szS x + szSR xs
theorem szSs_szSR : ∀ l : List S76, szSs l = l.length + szSR l
  | [] => rfl
  | x :: xs => by rw [szSs, szSR, szSs_szSR xs, List.length_cons]; omega
theorem szSR_mem : ∀ {l : List S76} {x : S76}, x ∈ l → szS x ≤ szSR l
  | y :: ys, x, h => by
    rw [szSR]
    rcases List.mem_cons.1 h with rfl | h
    · omega
    · have := szSR_mem h; omega
theorem szSs_len (l : List S76) : l.length ≤ szSs l := by
  rw [szSs_szSR]
  omega
mutual
def okS : S76 → Prop
  | ⟨_, _, _, es, x, y⟩ => (es.length ≤ maxLen ∧ okEs es) ∧ (x.length ≤ maxLen ∧ okSs x) ∧ (y.length ≤ maxLen ∧ okSs y)
def okSs : List S76 → Prop
  | [] => True
  | x :: xs => okS x ∧ okSs xs
end
theorem okS_eq (x : S76) : okS x ↔ (x.f3.length ≤ maxLen ∧ okEs x.f3) ∧ (x.f4.length ≤ maxLen ∧ okSs x.f4) ∧ (x.f5.length ≤ maxLen ∧ okSs x.f5) := by
  cases x
  rw [okS]
mutual
def okSB : S76 → Bool
  | ⟨_, _, _, es, x, y⟩ => (decide (es.length ≤ maxLen) && okBs es) && ((decide (x.length ≤ maxLen) && okSBs x) && (decide (y.length ≤ maxLen) && okSBs y))
def okSBs : List S76 → Bool
  | [] => true
  | x :: xs => okSB x && okSBs xs
end
mutual
theorem okSB_iff : ∀ x : S76, okSB x = true ↔ okS x
  | ⟨a, b, c, es, x, y⟩ => by rw [okSB, okS, ← okBs_iff es, ← okSBs_iff x, ← okSBs_iff y]; simp only [Bool.and_eq_true, decide_eq_true_eq]
theorem okSBs_iff : ∀ l : List S76, okSBs l = true ↔ okSs l
  | [] => by rw [okSBs, okSs]; simp
  | x :: xs => by rw [okSBs, okSs, Bool.and_eq_true, okSB_iff x, okSBs_iff xs]
end
theorem okSs_mem : ∀ {l : List S76}, okSs l → ∀ x ∈ l, okS x
  | [], _, x, h => by cases h
  | y :: ys, h, x, hx => by
    rw [okSs] at h
    rcases List.mem_cons.1 hx with rfl | hx
    · exact h.1
    · exact okSs_mem h.2 x hx
mutual
def eqS : S62 → S62 → Bool
  | ⟨a, b, c, es, p, q⟩, y => decide (a = y.f0) && decide (b = y.f1) && decide (c = y.f2) && eqEs es y.f3 && eqSs p y.f4 && eqSs q y.f5
def eqSs : List S62 → List S62 → Bool
  | [], [] => true
  | x :: xs, y :: ys => eqS x y && eqSs xs ys
  | _, _ => false
end
theorem eqS_eq (x y : S62) : eqS x y = (decide (x.f0 = y.f0) && decide (x.f1 = y.f1) && decide (x.f2 = y.f2) && eqEs x.f3 y.f3 && eqSs x.f4 y.f4 && eqSs x.f5 y.f5) := by
  cases x
  rw [eqS]
mutual
theorem eqS_refl : ∀ x : S62, eqS x x = true
  | ⟨a, b, c, es, p, q⟩ => by rw [eqS_eq]; simp [eqEs_refl es, eqSs_refl p, eqSs_refl q]
theorem eqSs_refl : ∀ l : List S62, eqSs l l = true
  | [] => by rw [eqSs]
  | x :: xs => by rw [eqSs, eqS_refl x, eqSs_refl xs]; rfl
end
theorem eqSs_len : ∀ {l m : List S62}, eqSs l m = true → l.length = m.length
  | [], [], _ => rfl
  | [], _ :: _, h => by rw [eqSs] at h; cases h; all_goals simp
  | _ :: _, [], h => by rw [eqSs] at h; cases h; all_goals simp
  | x :: xs, y :: ys, h => by
    rw [eqSs, Bool.and_eq_true] at h
    simp [eqSs_len h.2]
theorem eqSs_ne : ∀ {l m : List S62}, l.length ≠ m.length → eqSs l m = false := fun {l m} h => by
  cases he : eqSs l m with
  | false => rfl
  | true => exact absurd (eqSs_len he) h
theorem eqSs_snoc : ∀ {l m : List S62} {k : Nat}, eqSs (l.take k) (m.take k) = true → (h : k < l.length) → (h' : k < m.length) → eqS l[k] m[k] = true → eqSs (l.take (k + 1)) (m.take (k + 1)) = true
  | x :: xs, y :: ys, 0, _, _, _, hv => by simp only [List.take_succ_cons, List.take_zero, eqSs]; simpa using hv
  | x :: xs, y :: ys, k + 1, h, h1, h2, hv => by
    simp only [List.take_succ_cons, eqSs, Bool.and_eq_true] at h ⊢
    exact ⟨h.1, eqSs_snoc h.2 (by simpa using h1) (by simpa using h2) (by simpa using hv)⟩
theorem eqSs_at : ∀ {l m : List S62} {k : Nat} (h : k < l.length) (h' : k < m.length), eqS l[k] m[k] = false → eqSs l m = false
  | x :: xs, y :: ys, 0, _, _, hv => by rw [eqSs]; have hv' : eqS x y = false := hv; rw [hv']; rfl
  | x :: xs, y :: ys, k + 1, h1, h2, hv => by rw [eqSs, eqSs_at (k := k) (by simpa using h1) (by simpa using h2) (by simpa using hv), Bool.and_false]
mutual
/-- How many parts a statement has. -/
def nS : S62 → Nat
  | ⟨_, _, _, es, x, y⟩ => 1 + nEs es + nSs x + nSs y
def nSs : List S62 → Nat
  | [] => 0
  | x :: xs => nS x + nSs xs
end
theorem nS_eq (x : S62) : nS x = 1 + nEs x.f3 + nSs x.f4 + nSs x.f5 := by
  cases x
  rw [nS]
theorem nSs_len : ∀ l : List S62, l.length ≤ nSs l
  | [] => Nat.zero_le _
  | x :: xs => by have := nSs_len xs; have := nS_eq x; rw [nSs, List.length_cons]; omega
theorem nSs_mem : ∀ {l : List S62} {x : S62}, x ∈ l → nS x ≤ nSs l
  | y :: ys, x, h => by
    rw [nSs]
    rcases List.mem_cons.1 h with rfl | h
    · omega
    · have := nSs_mem h; omega
mutual
theorem nS_toS : ∀ x : S76, nS (toS x) ≤ 1 + szS x
  | ⟨a, b, c, es, x, y⟩ => by rw [toS, nS, szS]; have := nEs_toEs es; have := nSs_toSs x; have := nSs_toSs y; omega
theorem nSs_toSs : ∀ l : List S76, nSs (toSs l) ≤ szSs l
  | [] => by rw [toSs, nSs]; exact Nat.zero_le _
  | x :: xs => by rw [toSs, nSs, szSs]; have := nS_toS x; have := nSs_toSs xs; omega
end
mutual
/-- A statement and all within it. -/
def preS : S62 → List S62
  | ⟨a, b, c, es, x, y⟩ => ⟨a, b, c, es, x, y⟩ :: (preSs x ++ preSs y)
def preSs : List S62 → List S62
  | [] => []
  | x :: xs => preS x ++ preSs xs
end
theorem preS_eq (x : S62) : preS x = x :: (preSs x.f4 ++ preSs x.f5) := by
  cases x
  rw [preS]
theorem kidS4_lt {x : S62} {k : S62} (h : k ∈ x.f4) : SizeOf.sizeOf k < SizeOf.sizeOf x := by
  have := List.sizeOf_lt_of_mem h
  cases x
  simp at *
  omega
theorem kidS5_lt {x : S62} {k : S62} (h : k ∈ x.f5) : SizeOf.sizeOf k < SizeOf.sizeOf x := by
  have := List.sizeOf_lt_of_mem h
  cases x
  simp at *
  omega
theorem kidLS4_lt {x : S76} {k : S76} (h : k ∈ x.f4) : SizeOf.sizeOf k < SizeOf.sizeOf x := by
  have := List.sizeOf_lt_of_mem h
  cases x
  simp at *
  omega
theorem kidLS5_lt {x : S76} {k : S76} (h : k ∈ x.f5) : SizeOf.sizeOf k < SizeOf.sizeOf x := by
  have := List.sizeOf_lt_of_mem h
  cases x
  simp at *
  omega
theorem rd_LS (l : List S76) (i : Nat) (h : i < l.length) : rd_T76 l (i : Int) = l[i] := by
  simp [rd_T76, List.getD_eq_getElem?_getD, List.getElem?_eq_getElem h]
theorem rd_IS (l : List S62) (i : Nat) (h : i < l.length) : rd_T62 l (i : Int) = l[i] := by
  simp [rd_T62, List.getD_eq_getElem?_getD, List.getElem?_eq_getElem h]
end Go.Proofs.Ytjcggilkfofiaaa.Ex
namespace Go.Proofs.Ytjcggilkfofiaaa.P
open Go.RowKit Go.Proofs.YtjcggilkfofiaaaW.PrintWords Go.Proofs.YtjcggilkfofiaaaW.PrintLast Go.Proofs.YtjcggilkfofiaaaW.PrintMore
attribute [local go_sem] max2_int min2_int max_two min_two max_three min_three max_four min_four   -- for this text's walks alone
set_option linter.unusedVariables false
set_option linter.unusedSimpArgs false

/-! ### laws_markText: function 68 -/
def laws_markText.l0 : Nat → Int → ByteArray → Option (ByteArray)
  | 0, _, _ => none
  | k + 1, x0, x3 => if x0 > 0 then ((some (([(wrap64 (48 + (Int.tmod x0 10))) % 256] : List Int) : List Int)).bind fun y101 => (if (strOfNums y101).size + x3.size ≤ 9223372036854775807 then (laws_markText.l0 k (wrap64 (Int.tdiv x0 10)) ((strOfNums y101) ++ x3)) else (none))) else (if 1 + x3.size ≤ 9223372036854775807 then (some ((⟨#[109]⟩ : ByteArray) ++ x3)) else (none))
def laws_markText.f (k : Nat) (a0 : Int) : Option (ByteArray) := if a0 ≤ 0 then (some (⟨#[109, 48]⟩ : ByteArray)) else (laws_markText.l0 k a0 (⟨#[]⟩ : ByteArray))
theorem laws_markText.mono_l : ∀ k, (∀ y0 y1, LeO (laws_markText.l0 k y0 y1) (laws_markText.l0 (k + 1) y0 y1))
  | 0 => fun _ _ r h => by simp [laws_markText.l0] at h
  | k + 1 => by
    have ih0 := laws_markText.mono_l k
    · intro y0 y1
      unfold laws_markText.l0
      repeat' first
      | (with_reducible exact ih0 _ _)
      | (with_reducible exact LeO.refl _)
      | (with_reducible exact LeO.none _)
      | (with_reducible refine LeO.ite ?_ ?_)
      | (with_reducible refine LeO.bind ?_ (fun _ => ?_))
      | exact ih0 _ _
      | exact LeO.none _
      | refine LeO.ite ?_ ?_
      | refine LeO.bind ?_ (fun _ => ?_)
theorem laws_markText.mono : ∀ a0 k, LeO (laws_markText.f k a0) (laws_markText.f (k + 1) a0) := by
  intro a0 k
  have ih0 := laws_markText.mono_l k
  unfold laws_markText.f
  repeat' first
      | (with_reducible exact ih0 _ _)
      | (with_reducible exact LeO.refl _)
      | (with_reducible exact LeO.none _)
      | (with_reducible refine LeO.ite ?_ ?_)
      | (with_reducible refine LeO.bind ?_ (fun _ => ?_))
      | exact ih0 _ _
      | exact LeO.none _
      | refine LeO.ite ?_ ?_
      | refine LeO.bind ?_ (fun _ => ?_)
set_option maxHeartbeats 8000000 in
set_option maxRecDepth 100000 in
theorem laws_markText.calls (k : Nat) (a0 : Int) (r : ByteArray) (w : World) (h : laws_markText.f k a0 = some r) :
    Calls Try.prog 68 #[.int .i64 a0] w fun e w' => e = .returned (.string r) ∧ Below w.heap.size w w' := by
  have HB := Zs0.mk (Below.refl w.heap.size w)
  have H : (if a0 ≤ 0 then (some (⟨#[109, 48]⟩ : ByteArray)) else (laws_markText.l0 k a0 (⟨#[]⟩ : ByteArray))) = some r := h
  clear h
  by_cases c2 : a0 ≤ 0
  · rw [if_pos c2] at H
    have c2b0 : decide (a0 ≤ 0) = true := decide_eq_true c2
    clear c2
    obtain rfl := Option.some.inj H
    go_enter Try.func68, Try.ntmps68
    go_wp2
    go_ret
    exact ⟨by first | rfl | (simp [eWn, eWs] <;> rfl) | (simp [*, eWn, eWs] <;> rfl), by repeat (first | (with_reducible first | exact HB.out | apply blA | apply pbN | apply bl1) | exact HB.out)⟩
  · rw [if_neg c2] at H
    have c2b0 : decide (a0 ≤ 0) = false := decide_eq_false c2
    clear c2
    have H' := Zs0.mk H
    clear H
    go_enter Try.func68, Try.ntmps68
    go_wp2
    go_loopg [0, 3] k (fun kq v0 v3 w' => ∃ (x0_1 : Int) (x3_1 : ByteArray), v0 = .int .i64 x0_1 ∧ v3 = .string x3_1 ∧ Zs0 (laws_markText.l0 kq x0_1 x3_1 = some r) ∧ Zs0 (kq ≤ k) ∧ Zs0 (Below w.heap.size w w'))
    case atStart => exact ⟨(a0), ((⟨#[]⟩ : ByteArray)), (by first | rfl | (simp; done) | (simp [*]; done)), (by first | rfl | (simp; done) | (simp [*]; done)), H', ⟨Nat.le_refl _⟩, ⟨by repeat (first | (with_reducible first | exact HB.out | apply blA | apply pbN | apply bl1) | exact HB.out)⟩⟩
    case round =>
      clear H'
      try clear c2
      try clear c2b0
      try clear p2
      obtain ⟨x0_1, x3_1, rfl, rfl, HA, HK1, HB⟩ := hrel
      cases gk with
      | zero => exact absurd HA.out (by simp [laws_markText.l0])
      | succ k1 =>
        have H := HA.out
        clear HA
        simp only [laws_markText.l0] at H
        by_cases c3 : x0_1 > 0
        · rw [if_pos c3] at H
          have c3b0 : decide (0 < x0_1) = true := decide_eq_true c3
          clear c3
          obtain ⟨y101, hy101⟩ : ∃ y_ : List Int, y_ = (([(wrap64 (48 + (Int.tmod x0_1 10))) % 256] : List Int)) := ⟨_, rfl⟩
          replace H : (if (strOfNums y101).size + x3_1.size ≤ 9223372036854775807 then (laws_markText.l0 k1 (wrap64 (Int.tdiv x0_1 10)) ((strOfNums y101) ++ x3_1)) else (none)) = some r := by first | (rw [hy101]; with_reducible exact H) | (have H2_ := (Option.bind_some _ _).symm.trans H; rw [hy101]; with_reducible exact H2_) | (have H2_ := (Option.bind_some _ _).symm.trans H; with_reducible exact H2_) | with_reducible exact H | (rw [hy101]; exact H) | exact H
          have Ny101 := Zs0.mk hy101
          clear hy101
          have c4 := ipos H
          rw [if_pos c4] at H
          have c4b0 := eq_true c4
          have c4b1 := decide_eq_true c4
          try have c4b2 := eq_false (Nat.not_lt.2 c4)
          have H' := Zs0.mk H
          clear H
          go_wp2_with (first | ((with_reducible refine gtD (N := 12) rfl ?_); refine Kd.R_lit (Kd.int .u8) _ 5 ?hg (N := 12) ?hd (xs := ([(wrap64 (48 + (Int.tmod x0_1 10))) % 256] : List Int)) (inner := [.int .u8 ((wrap64 (48 + (Int.tmod x0_1 10))) % 256)]) (ok := fun _ => True) (okp := fun _ => True) ?hr ?hp (fun _ hk => hk) trivial (Below.refl _ _) (Nat.le_refl _) (by simp) ?_; (case hd => rfl); (case hg => rfl); (case hr => first | (go_simp; done) | (go_simp; rfl)); (case hp => exact (Reps.one (show Kd.M (Kd.int .u8) _ _ _ ((wrap64 (48 + (Int.tmod x0_1 10))) % 256) [.int .u8 ((wrap64 (48 + (Int.tmod x0_1 10))) % 256)] from rfl) (Reps.none _ _))); intro v102 w5 ho6 hb hg_ hnew_; clear hg_ hnew_; (first | rw [← Ny101.out] at ho6 | (simp only [Int.reduceToNat] at ho6; rw [← Ny101.out] at ho6)); have n0_ := Zs0.mk (Kd.R_lower ho6 (blZ (by repeat (first | (with_reducible first | exact HB.out | apply blA | apply pbN | apply bl1) | exact HB.out)))); have n1_ := Zs0.mk (blT (by repeat (first | (with_reducible first | exact HB.out | apply blA | apply pbN | apply bl1) | exact HB.out)) hb); clear HB; have HO103 := n0_; have HB := n1_; clear n0_ n1_; clear hb ho6; have hcv7 := own_string (P := Try.prog) Try.underlying83 Try.underlying5 Try.underlying9 (Kd.own_of_R HO103.out)))
          go_roundg k1
          case measure => have := HK1.out; omega
          case rel => exact ⟨(wrap64 (Int.tdiv x0_1 10)), ((strOfNums y101) ++ x3_1), (by first | rfl | (simp; done) | (simp [*]; done)), (by first | rfl | (simp; done) | (simp [*]; done)), H', ⟨by have := HK1.out; omega⟩, ⟨by repeat (first | (with_reducible first | exact HB.out | apply blA | apply pbN | apply bl1) | exact HB.out)⟩⟩
        · rw [if_neg c3] at H
          have c3b0 : decide (0 < x0_1) = false := decide_eq_false c3
          clear c3
          have c8 := ipos H
          rw [if_pos c8] at H
          have c8b0 := eq_true c8
          have c8b1 := decide_eq_true c8
          try have c8b2 := eq_false (Nat.not_lt.2 c8)
          obtain rfl := Option.some.inj H
          go_wp2
          go_ret
          exact ⟨by first | rfl | (simp [eWn, eWs] <;> rfl) | (simp [*, eWn, eWs] <;> rfl), by repeat (first | (with_reducible first | exact HB.out | apply blA | apply pbN | apply bl1) | exact HB.out)⟩

end Go.Proofs.Ytjcggilkfofiaaa.P
namespace Go.Proofs.Ytjcggilkfofiaaa.P
open Go.RowKit Go.Proofs.YtjcggilkfofiaaaW.PrintWords
set_option linter.unusedVariables false
def C_eqExp (GeqExp : Int → Int → Int → ByteArray → List (S29) → Int → Int → Int → ByteArray → List (S29) → Option (Bool)) : Prop := ∀ (a0_0 : Int) (a0_1 : Int) (a0_2 : Int) (a0_3 : ByteArray) (A0_4 : Option Addr) (c0_4 : Nat) (l0_4 : List (S29)) (a1_0 : Int) (a1_1 : Int) (a1_2 : Int) (a1_3 : ByteArray) (A1_4 : Option Addr) (c1_4 : Nat) (l1_4 : List (S29)) (r : Bool) (w : World) (hr0_4 : Kd.C k29 w A0_4 l0_4.length l0_4) (hc0_4 : l0_4.length ≤ c0_4) (hr1_4 : Kd.C k29 w A1_4 l1_4.length l1_4) (hc1_4 : l1_4.length ≤ c1_4) (h : GeqExp a0_0 a0_1 a0_2 a0_3 l0_4 a1_0 a1_1 a1_2 a1_3 l1_4 = some r), Calls Try.prog 13 #[.agg #[.int .i64 a0_0, .int .i64 a0_1, .int .i64 a0_2, .string a0_3, .slice A0_4 l0_4.length c0_4], .agg #[.int .i64 a1_0, .int .i64 a1_1, .int .i64 a1_2, .string a1_3, .slice A1_4 l1_4.length c1_4]] w fun e w' => e = .returned (.bool r) ∧ Below w.heap.size w w'
def C_eqExpS (GeqExpS : List (S29) → List (S29) → Option (Bool)) : Prop := ∀ (A0 : Option Addr) (c0 : Nat) (l0 : List (S29)) (A1 : Option Addr) (c1 : Nat) (l1 : List (S29)) (r : Bool) (w : World) (hr0 : Kd.C k29 w A0 l0.length l0) (hc0 : l0.length ≤ c0) (hr1 : Kd.C k29 w A1 l1.length l1) (hc1 : l1.length ≤ c1) (h : GeqExpS l0 l1 = some r), Calls Try.prog 36 #[.slice A0 l0.length c0, .slice A1 l1.length c1] w fun e w' => e = .returned (.bool r) ∧ Below w.heap.size w w'
def C_eqStmt (GeqStmt : Int → Int → Int → List (S29) → List (S62) → List (S62) → Int → Int → Int → List (S29) → List (S62) → List (S62) → Option (Bool)) : Prop := ∀ (a0_0 : Int) (a0_1 : Int) (a0_2 : Int) (A0_3 : Option Addr) (c0_3 : Nat) (l0_3 : List (S29)) (A0_4 : Option Addr) (c0_4 : Nat) (l0_4 : List (S62)) (A0_5 : Option Addr) (c0_5 : Nat) (l0_5 : List (S62)) (a1_0 : Int) (a1_1 : Int) (a1_2 : Int) (A1_3 : Option Addr) (c1_3 : Nat) (l1_3 : List (S29)) (A1_4 : Option Addr) (c1_4 : Nat) (l1_4 : List (S62)) (A1_5 : Option Addr) (c1_5 : Nat) (l1_5 : List (S62)) (r : Bool) (w : World) (hr0_3 : Kd.C k29 w A0_3 l0_3.length l0_3) (hc0_3 : l0_3.length ≤ c0_3) (hr0_4 : Kd.C k62 w A0_4 l0_4.length l0_4) (hc0_4 : l0_4.length ≤ c0_4) (hr0_5 : Kd.C k62 w A0_5 l0_5.length l0_5) (hc0_5 : l0_5.length ≤ c0_5) (hr1_3 : Kd.C k29 w A1_3 l1_3.length l1_3) (hc1_3 : l1_3.length ≤ c1_3) (hr1_4 : Kd.C k62 w A1_4 l1_4.length l1_4) (hc1_4 : l1_4.length ≤ c1_4) (hr1_5 : Kd.C k62 w A1_5 l1_5.length l1_5) (hc1_5 : l1_5.length ≤ c1_5) (h : GeqStmt a0_0 a0_1 a0_2 l0_3 l0_4 l0_5 a1_0 a1_1 a1_2 l1_3 l1_4 l1_5 = some r), Calls Try.prog 65 #[.agg #[.int .i64 a0_0, .int .i64 a0_1, .int .i64 a0_2, .slice A0_3 l0_3.length c0_3, .slice A0_4 l0_4.length c0_4, .slice A0_5 l0_5.length c0_5], .agg #[.int .i64 a1_0, .int .i64 a1_1, .int .i64 a1_2, .slice A1_3 l1_3.length c1_3, .slice A1_4 l1_4.length c1_4, .slice A1_5 l1_5.length c1_5]] w fun e w' => e = .returned (.bool r) ∧ Below w.heap.size w w'
def C_eqStmtS (GeqStmtS : List (S62) → List (S62) → Option (Bool)) : Prop := ∀ (A0 : Option Addr) (c0 : Nat) (l0 : List (S62)) (A1 : Option Addr) (c1 : Nat) (l1 : List (S62)) (r : Bool) (w : World) (hr0 : Kd.C k62 w A0 l0.length l0) (hc0 : l0.length ≤ c0) (hr1 : Kd.C k62 w A1 l1.length l1) (hc1 : l1.length ≤ c1) (h : GeqStmtS l0 l1 = some r), Calls Try.prog 47 #[.slice A0 l0.length c0, .slice A1 l1.length c1] w fun e w' => e = .returned (.bool r) ∧ Below w.heap.size w w'
def C_szExp (GszExp : Int → Int → Int → ByteArray → List (S24) → Int → Option (Int)) : Prop := ∀ (a0_0 : Int) (a0_1 : Int) (a0_2 : Int) (a0_3 : ByteArray) (A0_4 : Option Addr) (c0_4 : Nat) (l0_4 : List (S24)) (a1 : Int) (r : Int) (w : World) (hr0_4 : Kd.C k24 w A0_4 l0_4.length l0_4) (hc0_4 : l0_4.length ≤ c0_4) (h : GszExp a0_0 a0_1 a0_2 a0_3 l0_4 a1 = some r), Calls Try.prog 9 #[.agg #[.int .i64 a0_0, .int .i64 a0_1, .int .i64 a0_2, .string a0_3, .slice A0_4 l0_4.length c0_4], .int .i64 a1] w fun e w' => e = .returned (.int .i64 r) ∧ Below w.heap.size w w'
def C_szExpS (GszExpS : List (S24) → Int → Option (Int)) : Prop := ∀ (A0 : Option Addr) (c0 : Nat) (l0 : List (S24)) (a1 : Int) (r : Int) (w : World) (hr0 : Kd.C k24 w A0 l0.length l0) (hc0 : l0.length ≤ c0) (h : GszExpS l0 a1 = some r), Calls Try.prog 32 #[.slice A0 l0.length c0, .int .i64 a1] w fun e w' => e = .returned (.int .i64 r) ∧ Below w.heap.size w w'
def C_szStmt (GszStmt : Int → Int → Int → List (S24) → List (S76) → List (S76) → Int → Option (Int)) : Prop := ∀ (a0_0 : Int) (a0_1 : Int) (a0_2 : Int) (A0_3 : Option Addr) (c0_3 : Nat) (l0_3 : List (S24)) (A0_4 : Option Addr) (c0_4 : Nat) (l0_4 : List (S76)) (A0_5 : Option Addr) (c0_5 : Nat) (l0_5 : List (S76)) (a1 : Int) (r : Int) (w : World) (hr0_3 : Kd.C k24 w A0_3 l0_3.length l0_3) (hc0_3 : l0_3.length ≤ c0_3) (hr0_4 : Kd.C k76 w A0_4 l0_4.length l0_4) (hc0_4 : l0_4.length ≤ c0_4) (hr0_5 : Kd.C k76 w A0_5 l0_5.length l0_5) (hc0_5 : l0_5.length ≤ c0_5) (h : GszStmt a0_0 a0_1 a0_2 l0_3 l0_4 l0_5 a1 = some r), Calls Try.prog 63 #[.agg #[.int .i64 a0_0, .int .i64 a0_1, .int .i64 a0_2, .slice A0_3 l0_3.length c0_3, .slice A0_4 l0_4.length c0_4, .slice A0_5 l0_5.length c0_5], .int .i64 a1] w fun e w' => e = .returned (.int .i64 r) ∧ Below w.heap.size w w'
def C_szStmtS (GszStmtS : List (S76) → Int → Option (Int)) : Prop := ∀ (A0 : Option Addr) (c0 : Nat) (l0 : List (S76)) (a1 : Int) (r : Int) (w : World) (hr0 : Kd.C k76 w A0 l0.length l0) (hc0 : l0.length ≤ c0) (h : GszStmtS l0 a1 = some r), Calls Try.prog 38 #[.slice A0 l0.length c0, .int .i64 a1] w fun e w' => e = .returned (.int .i64 r) ∧ Below w.heap.size w w'
def C_toExp (GtoExp : Int → Int → Int → ByteArray → List (S24) → Option (Int × Int × Int × ByteArray × (List (S29)))) : Prop := ∀ (a0_0 : Int) (a0_1 : Int) (a0_2 : Int) (a0_3 : ByteArray) (A0_4 : Option Addr) (c0_4 : Nat) (l0_4 : List (S24)) (r1 : Int) (r2 : Int) (r3 : Int) (r4 : ByteArray) (r5 : List (S29)) (w : World) (hr0_4 : Kd.C k24 w A0_4 l0_4.length l0_4) (hc0_4 : l0_4.length ≤ c0_4) (h : GtoExp a0_0 a0_1 a0_2 a0_3 l0_4 = some (r1, r2, r3, r4, r5)), Calls Try.prog 11 #[.agg #[.int .i64 a0_0, .int .i64 a0_1, .int .i64 a0_2, .string a0_3, .slice A0_4 l0_4.length c0_4]] w fun e w' => ∃ v4_ : Value, e = .returned (.agg #[.int .i64 r1, .int .i64 r2, .int .i64 r3, .string r4, v4_]) ∧ Kd.R k29 29 w' w.heap.size (fun _ => True) v4_ r5 ∧ Below w.heap.size w w'
def C_toExpS (GtoExpS : List (S24) → Option ((List (S29)))) : Prop := ∀ (A0 : Option Addr) (c0 : Nat) (l0 : List (S24)) (r : List (S29)) (w : World) (hr0 : Kd.C k24 w A0 l0.length l0) (hc0 : l0.length ≤ c0) (h : GtoExpS l0 = some r), Calls Try.prog 34 #[.slice A0 l0.length c0] w fun e w' => ∃ v0_ : Value, e = .returned (v0_) ∧ Kd.R k29 29 w' w.heap.size (fun _ => True) v0_ r ∧ Below w.heap.size w w'
def C_toStmt (GtoStmt : Int → Int → Int → List (S24) → List (S76) → List (S76) → Option (Int × Int × Int × (List (S29)) × (List (S62)) × (List (S62)))) : Prop := ∀ (a0_0 : Int) (a0_1 : Int) (a0_2 : Int) (A0_3 : Option Addr) (c0_3 : Nat) (l0_3 : List (S24)) (A0_4 : Option Addr) (c0_4 : Nat) (l0_4 : List (S76)) (A0_5 : Option Addr) (c0_5 : Nat) (l0_5 : List (S76)) (r1 : Int) (r2 : Int) (r3 : Int) (r4 : List (S29)) (r5 : List (S62)) (r6 : List (S62)) (w : World) (hr0_3 : Kd.C k24 w A0_3 l0_3.length l0_3) (hc0_3 : l0_3.length ≤ c0_3) (hr0_4 : Kd.C k76 w A0_4 l0_4.length l0_4) (hc0_4 : l0_4.length ≤ c0_4) (hr0_5 : Kd.C k76 w A0_5 l0_5.length l0_5) (hc0_5 : l0_5.length ≤ c0_5) (h : GtoStmt a0_0 a0_1 a0_2 l0_3 l0_4 l0_5 = some (r1, r2, r3, r4, r5, r6)), Calls Try.prog 64 #[.agg #[.int .i64 a0_0, .int .i64 a0_1, .int .i64 a0_2, .slice A0_3 l0_3.length c0_3, .slice A0_4 l0_4.length c0_4, .slice A0_5 l0_5.length c0_5]] w fun e w' => ∃ v3_ v4_ v5_ : Value, e = .returned (.agg #[.int .i64 r1, .int .i64 r2, .int .i64 r3, v3_, v4_, v5_]) ∧ Kd.R k29 29 w' w.heap.size (fun _ => True) v3_ r4 ∧ Kd.R k62 62 w' w.heap.size (fun k_ => some k_ ≠ (v3_ : Value).ownBlock ∧ some k_ ≠ (v5_ : Value).ownBlock) v4_ r5 ∧ Kd.R k62 62 w' w.heap.size (fun k_ => some k_ ≠ (v3_ : Value).ownBlock ∧ some k_ ≠ (v4_ : Value).ownBlock) v5_ r6 ∧ Below w.heap.size w w'
def C_toStmtS (GtoStmtS : List (S76) → Option ((List (S62)))) : Prop := ∀ (A0 : Option Addr) (c0 : Nat) (l0 : List (S76)) (r : List (S62)) (w : World) (hr0 : Kd.C k76 w A0 l0.length l0) (hc0 : l0.length ≤ c0) (h : GtoStmtS l0 = some r), Calls Try.prog 42 #[.slice A0 l0.length c0] w fun e w' => ∃ v0_ : Value, e = .returned (v0_) ∧ Kd.R k62 62 w' w.heap.size (fun _ => True) v0_ r ∧ Below w.heap.size w w'
end Go.Proofs.Ytjcggilkfofiaaa.P
namespace Go.Proofs.Ytjcggilkfofiaaa.P
open Go.RowKit Go.Proofs.YtjcggilkfofiaaaW.PrintWords Go.Proofs.YtjcggilkfofiaaaW.PrintLast Go.Proofs.YtjcggilkfofiaaaW.PrintMore
attribute [local go_sem] max2_int min2_int max_two min_two max_three min_three max_four min_four   -- for this text's walks alone
set_option linter.unusedVariables false
set_option linter.unusedSimpArgs false

/-! ### O_szExp: function 9 -/
def O_szExp.f (GszExpS : List (S24) → Int → Option (Int)) (a0_0 : Int) (a0_1 : Int) (a0_2 : Int) (a0_3 : ByteArray) (l0_4 : List (S24)) (a1 : Int) : Option (Int) := if (wrap64 (a1 - (a0_3.size : Int))) < 0 then (some (-1)) else ((GszExpS l0_4 (wrap64 (a1 - (a0_3.size : Int)))).bind fun t102 => (if t102 < 0 then (some (-1)) else (some t102)))
set_option maxHeartbeats 8000000 in
set_option maxRecDepth 100000 in
theorem O_szExp.calls (GszExpS : List (S24) → Int → Option (Int)) (HszExpS : Zs0 (∀ (A0 : Option Addr) (c0 : Nat) (l0 : List (S24)) (a1 : Int) (r : Int) (w : World) (hr0 : Kd.C k24 w A0 l0.length l0) (hc0 : l0.length ≤ c0) (h : GszExpS l0 a1 = some r), Calls Try.prog 32 #[.slice A0 l0.length c0, .int .i64 a1] w fun e w' => e = .returned (.int .i64 r) ∧ Below w.heap.size w w')) (a0_0 : Int) (a0_1 : Int) (a0_2 : Int) (a0_3 : ByteArray) (A0_4 : Option Addr) (c0_4 : Nat) (l0_4 : List (S24)) (a1 : Int) (r : Int) (w : World) (hr0_4 : Kd.C k24 w A0_4 l0_4.length l0_4) (hc0_4 : l0_4.length ≤ c0_4) (h : O_szExp.f GszExpS a0_0 a0_1 a0_2 a0_3 l0_4 a1 = some r) :
    Calls Try.prog 9 #[.agg #[.int .i64 a0_0, .int .i64 a0_1, .int .i64 a0_2, .string a0_3, .slice A0_4 l0_4.length c0_4], .int .i64 a1] w fun e w' => e = .returned (.int .i64 r) ∧ Below w.heap.size w w' := by
  have hu24 := Try.underlying24
  have HR0_4 := Zs0.mk hr0_4
  have HC0_4 := Zs0.mk hc0_4
  clear hr0_4 hc0_4
  have HB := Zs0.mk (Below.refl w.heap.size w)
  have H : (if (wrap64 (a1 - (a0_3.size : Int))) < 0 then (some (-1)) else ((GszExpS l0_4 (wrap64 (a1 - (a0_3.size : Int)))).bind fun t102 => (if t102 < 0 then (some (-1)) else (some t102)))) = some r := h
  clear h
  by_cases c3 : (wrap64 (a1 - (a0_3.size : Int))) < 0
  · rw [if_pos c3] at H
    have c3b0 : decide ((wrap64 (a1 - (a0_3.size : Int))) < 0) = true := decide_eq_true c3
    clear c3
    obtain rfl := Option.some.inj H
    go_enter Try.func9, Try.ntmps9
    go_wp2_with (first | ((with_reducible refine gtD (N := 2) rfl ?_); refine box_event ?hg (N := 2) ?hd (cs := #[.int .i64 a0_0, .int .i64 a0_1, .int .i64 a0_2, .string a0_3, .slice A0_4 l0_4.length c0_4]) (t := 24) ?hr ?_; (case hd => rfl); (case hg => rfl); (case hr => first | (go_simp; done) | (go_simp; rfl)); intro gb101 hg w4 hbox hb; have n0_ := Zs0.mk (blT (by repeat (first | (with_reducible first | exact HB.out | apply blA | apply pbN | apply bl1) | exact HB.out)) hb); have n1_ := Zs0.mk (hbox); have n2_ := Zs0.mk ((by rw [hg]; exact (blZ (by repeat (first | (with_reducible first | exact HB.out | apply blA | apply pbN | apply bl1) | exact HB.out))) : w.heap.size ≤ gb101)); have n3_ := Zs0.mk ((by rw [hg]; exact (blZ (by repeat (first | (with_reducible first | exact HB.out | apply blA | apply pbN | apply bl1) | exact HB.out))) : w.heap.size ≤ gb101)); clear HB; have HB := n0_; have BK101 := n1_; have GW101 := n2_; have GE101 := n3_; clear n0_ n1_ n2_ n3_; clear hb hbox hg; obtain ⟨hcz5_0, hcz5_1, hcz5_2, hcz5_3, hcz5_4, hfz5_0, hfz5_1, hfz5_2, hfz5_3, hfz5_4⟩ := bx5 BK101.out))
    go_ret
    exact ⟨by first | rfl | (simp [eWn, eWs] <;> rfl) | (simp [*, eWn, eWs] <;> rfl), by repeat (first | (with_reducible first | exact HB.out | apply blA | apply pbN | apply bl1 | refine blS ?_ GE101.out) | exact HB.out)⟩
  · rw [if_neg c3] at H
    have c3b0 : decide ((wrap64 (a1 - (a0_3.size : Int))) < 0) = false := decide_eq_false c3
    clear c3
    replace H := Option.bind_eq_some_iff.mp H
    obtain ⟨t102, A60, H⟩ := H
    replace H : (if t102 < 0 then (some (-1)) else (some t102)) = some r := H
    have A6 := Zs0.mk A60
    clear A60
    by_cases c7 : t102 < 0
    · rw [if_pos c7] at H
      have c7b0 : decide (t102 < 0) = true := decide_eq_true c7
      clear c7
      obtain rfl := Option.some.inj H
      go_enter Try.func9, Try.ntmps9
      go_wp2_with (first | ((with_reducible refine gtD (N := 2) rfl ?_); refine box_event ?hg (N := 2) ?hd (cs := #[.int .i64 a0_0, .int .i64 a0_1, .int .i64 a0_2, .string a0_3, .slice A0_4 l0_4.length c0_4]) (t := 24) ?hr ?_; (case hd => rfl); (case hg => rfl); (case hr => first | (go_simp; done) | (go_simp; rfl)); intro gb101 hg w8 hbox hb; have n0_ := Zs0.mk (blT (by repeat (first | (with_reducible first | exact HB.out | apply blA | apply pbN | apply bl1) | exact HB.out)) hb); have n1_ := Zs0.mk (hbox); have n2_ := Zs0.mk ((by rw [hg]; exact (blZ (by repeat (first | (with_reducible first | exact HB.out | apply blA | apply pbN | apply bl1) | exact HB.out))) : w.heap.size ≤ gb101)); have n3_ := Zs0.mk ((by rw [hg]; exact (blZ (by repeat (first | (with_reducible first | exact HB.out | apply blA | apply pbN | apply bl1) | exact HB.out))) : w.heap.size ≤ gb101)); clear HB; have HB := n0_; have BK101 := n1_; have GW101 := n2_; have GE101 := n3_; clear n0_ n1_ n2_ n3_; clear hb hbox hg; obtain ⟨hcz9_0, hcz9_1, hcz9_2, hcz9_3, hcz9_4, hfz9_0, hfz9_1, hfz9_2, hfz9_3, hfz9_4⟩ := bx5 BK101.out) | ((with_reducible refine gtC (f := 32) rfl ?_); refine goesL_ (some 15) rfl rfl Try.func32 (by kernel_rfl) rfl #[.slice A0_4 l0_4.length c0_4, .int .i64 (wrap64 (a1 - (a0_3.size : Int)))] rfl (by (try simp only [List.map_toArray, List.map_cons, List.map_nil]); first | done | rfl | (simp only [List.length_drop, List.length_take]; rfl)) ?_; (with_reducible refine (HszExpS.out _ _ l0_4 (wrap64 (a1 - (a0_3.size : Int))) t102 _ ?side1 ?side2 A6.out).mono ?_); (case side1 => repeat (first | exact (Kd.C_below HR0_4.out HB.out) | (with_reducible refine Kd.C_alloc ?_ _) | (with_reducible refine Kd.C_drewN ?_ _) | (with_reducible refine Kd.C_drew ?_))); (case side2 => exact HC0_4.out); rintro e w10 ⟨rfl, hb⟩; refine ⟨_, rfl, ?_⟩; have n0_ := Zs0.mk (blk_below (g := gb101) (o := .cells #[.int .i64 a0_0, .int .i64 a0_1, .int .i64 a0_2, .string a0_3, .slice A0_4 l0_4.length c0_4] 24 (0, 0)) (by (with_reducible repeat (first | refine bkN ?_ _ | refine bk1 ?_ | refine bkA ?_ _)); exact BK101.out) hb); have n1_ := Zs0.mk (blT (by repeat (first | (with_reducible first | exact HB.out | apply blA | apply pbN | apply bl1 | refine blS ?_ GE101.out) | exact HB.out)) hb); clear BK101; clear HB; have BK101 := n0_; have HB := n1_; clear n0_ n1_; (try clear hb); (try clear hb2); (try clear hk); (try clear hi)))
      go_ret
      exact ⟨by first | rfl | (simp [eWn, eWs] <;> rfl) | (simp [*, eWn, eWs] <;> rfl), by repeat (first | (with_reducible first | exact HB.out | apply blA | apply pbN | apply bl1 | refine blS ?_ GE101.out) | exact HB.out)⟩
    · rw [if_neg c7] at H
      have c7b0 : decide (t102 < 0) = false := decide_eq_false c7
      clear c7
      obtain rfl := Option.some.inj H
      go_enter Try.func9, Try.ntmps9
      go_wp2_with (first | ((with_reducible refine gtD (N := 2) rfl ?_); refine box_event ?hg (N := 2) ?hd (cs := #[.int .i64 a0_0, .int .i64 a0_1, .int .i64 a0_2, .string a0_3, .slice A0_4 l0_4.length c0_4]) (t := 24) ?hr ?_; (case hd => rfl); (case hg => rfl); (case hr => first | (go_simp; done) | (go_simp; rfl)); intro gb101 hg w11 hbox hb; have n0_ := Zs0.mk (blT (by repeat (first | (with_reducible first | exact HB.out | apply blA | apply pbN | apply bl1) | exact HB.out)) hb); have n1_ := Zs0.mk (hbox); have n2_ := Zs0.mk ((by rw [hg]; exact (blZ (by repeat (first | (with_reducible first | exact HB.out | apply blA | apply pbN | apply bl1) | exact HB.out))) : w.heap.size ≤ gb101)); have n3_ := Zs0.mk ((by rw [hg]; exact (blZ (by repeat (first | (with_reducible first | exact HB.out | apply blA | apply pbN | apply bl1) | exact HB.out))) : w.heap.size ≤ gb101)); clear HB; have HB := n0_; have BK101 := n1_; have GW101 := n2_; have GE101 := n3_; clear n0_ n1_ n2_ n3_; clear hb hbox hg; obtain ⟨hcz12_0, hcz12_1, hcz12_2, hcz12_3, hcz12_4, hfz12_0, hfz12_1, hfz12_2, hfz12_3, hfz12_4⟩ := bx5 BK101.out) | ((with_reducible refine gtC (f := 32) rfl ?_); refine goesL_ (some 15) rfl rfl Try.func32 (by kernel_rfl) rfl #[.slice A0_4 l0_4.length c0_4, .int .i64 (wrap64 (a1 - (a0_3.size : Int)))] rfl (by (try simp only [List.map_toArray, List.map_cons, List.map_nil]); first | done | rfl | (simp only [List.length_drop, List.length_take]; rfl)) ?_; (with_reducible refine (HszExpS.out _ _ l0_4 (wrap64 (a1 - (a0_3.size : Int))) t102 _ ?side1 ?side2 A6.out).mono ?_); (case side1 => repeat (first | exact (Kd.C_below HR0_4.out HB.out) | (with_reducible refine Kd.C_alloc ?_ _) | (with_reducible refine Kd.C_drewN ?_ _) | (with_reducible refine Kd.C_drew ?_))); (case side2 => exact HC0_4.out); rintro e w13 ⟨rfl, hb⟩; refine ⟨_, rfl, ?_⟩; have n0_ := Zs0.mk (blk_below (g := gb101) (o := .cells #[.int .i64 a0_0, .int .i64 a0_1, .int .i64 a0_2, .string a0_3, .slice A0_4 l0_4.length c0_4] 24 (0, 0)) (by (with_reducible repeat (first | refine bkN ?_ _ | refine bk1 ?_ | refine bkA ?_ _)); exact BK101.out) hb); have n1_ := Zs0.mk (blT (by repeat (first | (with_reducible first | exact HB.out | apply blA | apply pbN | apply bl1 | refine blS ?_ GE101.out) | exact HB.out)) hb); clear BK101; clear HB; have BK101 := n0_; have HB := n1_; clear n0_ n1_; (try clear hb); (try clear hb2); (try clear hk); (try clear hi)))
      go_ret
      exact ⟨by first | rfl | (simp [eWn, eWs] <;> rfl) | (simp [*, eWn, eWs] <;> rfl), by repeat (first | (with_reducible first | exact HB.out | apply blA | apply pbN | apply bl1 | refine blS ?_ GE101.out) | exact HB.out)⟩

end Go.Proofs.Ytjcggilkfofiaaa.P
namespace Go.Proofs.Ytjcggilkfofiaaa.P
open Go.RowKit Go.Proofs.YtjcggilkfofiaaaW.PrintWords Go.Proofs.YtjcggilkfofiaaaW.PrintLast Go.Proofs.YtjcggilkfofiaaaW.PrintMore
attribute [local go_sem] max2_int min2_int max_two min_two max_three min_three max_four min_four   -- for this text's walks alone
set_option linter.unusedVariables false
set_option linter.unusedSimpArgs false

/-! ### O_szExpS: function 32 -/
def O_szExpS.l0 (GszExp : Int → Int → Int → ByteArray → List (S24) → Int → Option (Int)) : Nat → List (S24) → Int → Int → Option (Int)
  | 0, _, _, _ => none
  | k + 1, x0, x1, x5 => if x5 < (x0.length : Int) then (if 0 ≤ x5 then ((GszExp ((rd_T24 x0 x5).f0) ((rd_T24 x0 x5).f1) ((rd_T24 x0 x5).f2) ((rd_T24 x0 x5).f3) ((rd_T24 x0 x5).f4) x1).bind fun t102 => (if t102 < 0 then (some (-1)) else (O_szExpS.l0 GszExp k x0 t102 (wrap64 (x5 + 1))))) else (none)) else (some x1)
def O_szExpS.f (GszExp : Int → Int → Int → ByteArray → List (S24) → Int → Option (Int)) (k : Nat) (l0 : List (S24)) (a1 : Int) : Option (Int) := if (wrap64 (a1 - (l0.length : Int))) < 0 then (some (-1)) else (O_szExpS.l0 GszExp k l0 (wrap64 (a1 - (l0.length : Int))) 0)
theorem O_szExpS.mono_l (GszExp : Int → Int → Int → ByteArray → List (S24) → Int → Option (Int)) : ∀ k, (∀ y0 y1 y2, LeO (O_szExpS.l0 GszExp k y0 y1 y2) (O_szExpS.l0 GszExp (k + 1) y0 y1 y2))
  | 0 => fun _ _ _ r h => by simp [O_szExpS.l0] at h
  | k + 1 => by
    have ih0 := O_szExpS.mono_l GszExp k
    · intro y0 y1 y2
      unfold O_szExpS.l0
      repeat' first
      | (with_reducible exact ih0 _ _ _)
      | (with_reducible exact LeO.refl _)
      | (with_reducible exact LeO.none _)
      | (with_reducible refine LeO.ite ?_ ?_)
      | (with_reducible refine LeO.bind ?_ (fun _ => ?_))
      | exact ih0 _ _ _
      | exact LeO.none _
      | refine LeO.ite ?_ ?_
      | refine LeO.bind ?_ (fun _ => ?_)
theorem O_szExpS.mono (GszExp : Int → Int → Int → ByteArray → List (S24) → Int → Option (Int)) : ∀ a0 a1 k, LeO (O_szExpS.f GszExp k a0 a1) (O_szExpS.f GszExp (k + 1) a0 a1) := by
  intro a0 a1 k
  have ih0 := O_szExpS.mono_l GszExp k
  unfold O_szExpS.f
  repeat' first
      | (with_reducible exact ih0 _ _ _)
      | (with_reducible exact LeO.refl _)
      | (with_reducible exact LeO.none _)
      | (with_reducible refine LeO.ite ?_ ?_)
      | (with_reducible refine LeO.bind ?_ (fun _ => ?_))
      | exact ih0 _ _ _
      | exact LeO.none _
      | refine LeO.ite ?_ ?_
      | refine LeO.bind ?_ (fun _ => ?_)
set_option maxHeartbeats 8000000 in
set_option maxRecDepth 100000 in
theorem O_szExpS.calls (GszExp : Int → Int → Int → ByteArray → List (S24) → Int → Option (Int)) (HszExp : Zs0 (∀ (a0_0 : Int) (a0_1 : Int) (a0_2 : Int) (a0_3 : ByteArray) (A0_4 : Option Addr) (c0_4 : Nat) (l0_4 : List (S24)) (a1 : Int) (r : Int) (w : World) (hr0_4 : Kd.C k24 w A0_4 l0_4.length l0_4) (hc0_4 : l0_4.length ≤ c0_4) (h : GszExp a0_0 a0_1 a0_2 a0_3 l0_4 a1 = some r), Calls Try.prog 9 #[.agg #[.int .i64 a0_0, .int .i64 a0_1, .int .i64 a0_2, .string a0_3, .slice A0_4 l0_4.length c0_4], .int .i64 a1] w fun e w' => e = .returned (.int .i64 r) ∧ Below w.heap.size w w')) (k : Nat) (A0 : Option Addr) (c0 : Nat) (l0 : List (S24)) (a1 : Int) (r : Int) (w : World) (hr0 : Kd.C k24 w A0 l0.length l0) (hc0 : l0.length ≤ c0) (h : O_szExpS.f GszExp k l0 a1 = some r) :
    Calls Try.prog 32 #[.slice A0 l0.length c0, .int .i64 a1] w fun e w' => e = .returned (.int .i64 r) ∧ Below w.heap.size w w' := by
  have hu24 := Try.underlying24
  have HR0 := Zs0.mk hr0
  have HC0 := Zs0.mk hc0
  clear hr0 hc0
  have HB := Zs0.mk (Below.refl w.heap.size w)
  have H : (if (wrap64 (a1 - (l0.length : Int))) < 0 then (some (-1)) else (O_szExpS.l0 GszExp k l0 (wrap64 (a1 - (l0.length : Int))) 0)) = some r := h
  clear h
  by_cases c3 : (wrap64 (a1 - (l0.length : Int))) < 0
  · rw [if_pos c3] at H
    have c3b0 : decide ((wrap64 (a1 - (l0.length : Int))) < 0) = true := decide_eq_true c3
    clear c3
    obtain rfl := Option.some.inj H
    go_enter Try.func32, Try.ntmps32
    go_wp2
    go_ret
    exact ⟨by first | rfl | (simp [eWn, eWs] <;> rfl) | (simp [*, eWn, eWs] <;> rfl), by repeat (first | (with_reducible first | exact HB.out | apply blA | apply pbN | apply bl1) | exact HB.out)⟩
  · rw [if_neg c3] at H
    have c3b0 : decide ((wrap64 (a1 - (l0.length : Int))) < 0) = false := decide_eq_false c3
    clear c3
    have H' := Zs0.mk H
    clear H
    go_enter Try.func32, Try.ntmps32
    go_wp2
    go_loopg [1, 5] k (fun kq v1 v5 w' => ∃ (x1_1 : Int) (x5_1 : Int), v1 = .int .i64 x1_1 ∧ v5 = .int .i64 x5_1 ∧ Zs0 (O_szExpS.l0 GszExp kq l0 x1_1 x5_1 = some r) ∧ Zs0 (kq ≤ k) ∧ Zs0 (Below w.heap.size w w'))
    case atStart => exact ⟨(wrap64 (a1 - (l0.length : Int))), (0), (by first | rfl | (simp; done) | (simp [*]; done)), (by first | rfl | (simp; done) | (simp [*]; done)), H', ⟨Nat.le_refl _⟩, ⟨by repeat (first | (with_reducible first | exact HB.out | apply blA | apply pbN | apply bl1) | exact HB.out)⟩⟩
    case round =>
      clear H'
      try clear p2
      try clear c3
      try clear c3b0
      obtain ⟨x1_1, x5_1, rfl, rfl, HA, HK1, HB⟩ := hrel
      cases gk with
      | zero => exact absurd HA.out (by simp [O_szExpS.l0])
      | succ k1 =>
        have H := HA.out
        clear HA
        simp only [O_szExpS.l0] at H
        by_cases c4 : x5_1 < (l0.length : Int)
        · rw [if_pos c4] at H
          have c4b0 : decide (x5_1 < (l0.length : Int)) = true := decide_eq_true c4
          clear c4
          by_cases c5 : 0 ≤ x5_1
          · rw [if_pos c5] at H
            have c5b0 : decide (0 ≤ x5_1) = true := decide_eq_true c5
            clear c5
            replace H := Option.bind_eq_some_iff.mp H
            obtain ⟨t102, A60, H⟩ := H
            replace H : (if t102 < 0 then (some (-1)) else (O_szExpS.l0 GszExp k1 l0 t102 (wrap64 (x5_1 + 1)))) = some r := H
            have A6 := Zs0.mk A60
            clear A60
            by_cases c7 : t102 < 0
            · rw [if_pos c7] at H
              have c7b0 : decide (t102 < 0) = true := decide_eq_true c7
              clear c7
              obtain rfl := Option.some.inj H
              have p101 : 0 ≤ (x5_1 : Int) := of_decide_eq_true (by first | (with_reducible assumption) | assumption)
              have q101 : x5_1 < (l0.length : Int) := of_decide_eq_true (by first | (with_reducible assumption) | assumption)
              obtain ⟨ad101, A101_4, c101_4, e101, hx101_0, hx101_1, hx101_2, hx101_3, hx101_4, hl101_4, hi101_4⟩ := at_T24 HR0.out x5_1 p101 q101
              cases e101
              replace hx101_0 := (HB.out.cell (World.block_lt_of_cell? w _ hx101_0)).trans hx101_0
              replace hx101_1 := (HB.out.cell (World.block_lt_of_cell? w _ hx101_1)).trans hx101_1
              replace hx101_2 := (HB.out.cell (World.block_lt_of_cell? w _ hx101_2)).trans hx101_2
              replace hx101_3 := (HB.out.cell (World.block_lt_of_cell? w _ hx101_3)).trans hx101_3
              replace hx101_4 := (HB.out.cell (World.block_lt_of_cell? w _ hx101_4)).trans hx101_4
              have HR101_4 := Zs0.mk hi101_4
              have HC101_4 := Zs0.mk hl101_4
              clear hi101_4 hl101_4
              replace p101 := eq_true p101
              replace q101 := eq_true q101
              go_wp2_with (first | ((with_reducible refine gtC (f := 9) rfl ?_); refine goesL_ (some 23) rfl rfl Try.func9 (by kernel_rfl) rfl #[.agg #[.int .i64 ((rd_T24 l0 x5_1).f0), .int .i64 ((rd_T24 l0 x5_1).f1), .int .i64 ((rd_T24 l0 x5_1).f2), .string ((rd_T24 l0 x5_1).f3), .slice A101_4 ((rd_T24 l0 x5_1).f4).length c101_4], .int .i64 x1_1] rfl (by (try simp only [List.map_toArray, List.map_cons, List.map_nil]); first | done | rfl | (simp only [List.length_drop, List.length_take]; rfl)) ?_; (with_reducible refine (HszExp.out ((rd_T24 l0 x5_1).f0) ((rd_T24 l0 x5_1).f1) ((rd_T24 l0 x5_1).f2) ((rd_T24 l0 x5_1).f3) _ _ ((rd_T24 l0 x5_1).f4) x1_1 t102 _ ?side1 ?side2 A6.out).mono ?_); (case side1 => repeat (first | exact (Kd.C_below HR101_4.out HB.out) | (with_reducible refine Kd.C_alloc ?_ _) | (with_reducible refine Kd.C_drewN ?_ _) | (with_reducible refine Kd.C_drew ?_))); (case side2 => exact HC101_4.out); rintro e w8 ⟨rfl, hb⟩; refine ⟨_, rfl, ?_⟩; have n0_ := Zs0.mk (blT (by repeat (first | (with_reducible first | exact HB.out | apply blA | apply pbN | apply bl1) | exact HB.out)) hb); clear HB; have HB := n0_; clear n0_; (try clear hb); (try clear hb2); (try clear hk); (try clear hi)))
              go_ret
              exact ⟨by first | rfl | (simp [eWn, eWs] <;> rfl) | (simp [*, eWn, eWs] <;> rfl), by repeat (first | (with_reducible first | exact HB.out | apply blA | apply pbN | apply bl1) | exact HB.out)⟩
            · rw [if_neg c7] at H
              have c7b0 : decide (t102 < 0) = false := decide_eq_false c7
              clear c7
              have H' := Zs0.mk H
              clear H
              have p101 : 0 ≤ (x5_1 : Int) := of_decide_eq_true (by first | (with_reducible assumption) | assumption)
              have q101 : x5_1 < (l0.length : Int) := of_decide_eq_true (by first | (with_reducible assumption) | assumption)
              obtain ⟨ad101, A101_4, c101_4, e101, hx101_0, hx101_1, hx101_2, hx101_3, hx101_4, hl101_4, hi101_4⟩ := at_T24 HR0.out x5_1 p101 q101
              cases e101
              replace hx101_0 := (HB.out.cell (World.block_lt_of_cell? w _ hx101_0)).trans hx101_0
              replace hx101_1 := (HB.out.cell (World.block_lt_of_cell? w _ hx101_1)).trans hx101_1
              replace hx101_2 := (HB.out.cell (World.block_lt_of_cell? w _ hx101_2)).trans hx101_2
              replace hx101_3 := (HB.out.cell (World.block_lt_of_cell? w _ hx101_3)).trans hx101_3
              replace hx101_4 := (HB.out.cell (World.block_lt_of_cell? w _ hx101_4)).trans hx101_4
              have HR101_4 := Zs0.mk hi101_4
              have HC101_4 := Zs0.mk hl101_4
              clear hi101_4 hl101_4
              replace p101 := eq_true p101
              replace q101 := eq_true q101
              go_wp2_with (first | ((with_reducible refine gtC (f := 9) rfl ?_); refine goesL_ (some 23) rfl rfl Try.func9 (by kernel_rfl) rfl #[.agg #[.int .i64 ((rd_T24 l0 x5_1).f0), .int .i64 ((rd_T24 l0 x5_1).f1), .int .i64 ((rd_T24 l0 x5_1).f2), .string ((rd_T24 l0 x5_1).f3), .slice A101_4 ((rd_T24 l0 x5_1).f4).length c101_4], .int .i64 x1_1] rfl (by (try simp only [List.map_toArray, List.map_cons, List.map_nil]); first | done | rfl | (simp only [List.length_drop, List.length_take]; rfl)) ?_; (with_reducible refine (HszExp.out ((rd_T24 l0 x5_1).f0) ((rd_T24 l0 x5_1).f1) ((rd_T24 l0 x5_1).f2) ((rd_T24 l0 x5_1).f3) _ _ ((rd_T24 l0 x5_1).f4) x1_1 t102 _ ?side1 ?side2 A6.out).mono ?_); (case side1 => repeat (first | exact (Kd.C_below HR101_4.out HB.out) | (with_reducible refine Kd.C_alloc ?_ _) | (with_reducible refine Kd.C_drewN ?_ _) | (with_reducible refine Kd.C_drew ?_))); (case side2 => exact HC101_4.out); rintro e w9 ⟨rfl, hb⟩; refine ⟨_, rfl, ?_⟩; have n0_ := Zs0.mk (blT (by repeat (first | (with_reducible first | exact HB.out | apply blA | apply pbN | apply bl1) | exact HB.out)) hb); clear HB; have HB := n0_; clear n0_; (try clear hb); (try clear hb2); (try clear hk); (try clear hi)))
              go_roundg k1
              case measure => have := HK1.out; omega
              case rel => exact ⟨(t102), (wrap64 (x5_1 + 1)), (by first | rfl | (simp; done) | (simp [*]; done)), (by first | rfl | (simp; done) | (simp [*]; done)), H', ⟨by have := HK1.out; omega⟩, ⟨by repeat (first | (with_reducible first | exact HB.out | apply blA | apply pbN | apply bl1) | exact HB.out)⟩⟩
          · rw [if_neg c5] at H
            exact absurd H (by simp)
        · rw [if_neg c4] at H
          have c4b0 : decide (x5_1 < (l0.length : Int)) = false := decide_eq_false c4
          clear c4
          obtain rfl := Option.some.inj H
          go_wp2
          go_ret
          exact ⟨by first | rfl | (simp [eWn, eWs] <;> rfl) | (simp [*, eWn, eWs] <;> rfl), by repeat (first | (with_reducible first | exact HB.out | apply blA | apply pbN | apply bl1) | exact HB.out)⟩

end Go.Proofs.Ytjcggilkfofiaaa.P
namespace Go.Proofs.Ytjcggilkfofiaaa.P
open Go.RowKit Go.Proofs.Ytjcggilkfofiaaa.Ex Go.Proofs.YtjcggilkfofiaaaW.PrintWords Go.Proofs.Ytjcggilkfofiaaa.Aux
set_option linter.unusedVariables false
set_option linter.unusedSimpArgs false
theorem sz_loop (G : Int → Int → Int → ByteArray → List S24 → Int → Option Int) (l : List S24) (hG : ∀ x ∈ l, ∀ a : Int, 0 ≤ a → a ≤ 1048576 → G x.f0 x.f1 x.f2 x.f3 x.f4 a = some (lftE a (szE x))) (hl : l.length ≤ maxLen) (d : Nat) :
    ∀ (i : Nat) (a : Int), i + d = l.length → 0 ≤ a → a ≤ 1048576 → Ev (fun k => O_szExpS.l0 G k l a (i : Int)) (lftE a (szR (l.drop i))) := by
  unfold maxLen at hl
  induction d with
  | zero =>
    intro i a hi h0 h1
    refine Ev.step (f := fun _ => some a) (fun k => by rw [O_szExpS.l0, if_neg (by omega)]) ?_
    rw [List.drop_eq_nil_of_le (by omega), szR, lftE_zero h0]
    exact Ev.now _
  | succ d ih =>
    intro i a hi h0 h1
    have hp : i < l.length := by omega
    have hw : wrap64 ((i : Int) + 1) = ((i + 1 : Nat) : Int) := by rw [wrap_ok (by omega) (by omega)]; omega
    have hg := hG l[i] (List.getElem_mem hp) a h0 h1
    rw [List.drop_eq_getElem_cons hp, szR]
    by_cases hc : (szE l[i] : Int) ≤ a
    · rw [lftE_yes hc] at hg
      refine Ev.step (fun k => by rw [O_szExpS.l0, if_pos (by omega), if_pos (by omega), rd_LE l i hp, hg, Option.bind_some, if_neg (by omega), hw]) ?_
      rw [← lftE_add hc]
      exact ih (i + 1) _ (by omega) (by omega) (by omega)
    · rw [lftE_no hc] at hg
      refine Ev.step (f := fun _ => some (-1)) (fun k => by rw [O_szExpS.l0, if_pos (by omega), if_pos (by omega), rd_LE l i hp, hg, Option.bind_some, if_pos (by omega)]) ?_
      rw [lftE_no (by omega)]
      exact Ev.now _
theorem szS_ev (G : Int → Int → Int → ByteArray → List S24 → Int → Option Int) (l : List S24) (hG : ∀ x ∈ l, ∀ a : Int, 0 ≤ a → a ≤ 1048576 → G x.f0 x.f1 x.f2 x.f3 x.f4 a = some (lftE a (szE x))) (hl : l.length ≤ maxLen) (a : Int) (h0 : 0 ≤ a) (h1 : a ≤ 1048576) :
    Ev (fun k => O_szExpS.f G k l a) (lftE a (szEs l)) := by
  have hl2 := hl
  unfold maxLen at hl2
  rw [szEs_szR]
  have hw : wrap64 (a - (l.length : Int)) = a - (l.length : Int) := wrap_ok (by omega) (by omega)
  by_cases hc : (l.length : Int) ≤ a
  · have h := sz_loop G l hG hl l.length 0 (a - l.length) (by omega) (by omega) (by omega)
    rw [List.drop_zero, lftE_add hc] at h
    exact Ev.congr (fun k => by rw [O_szExpS.f, hw, if_neg (by omega)]; rfl) h
  · rw [lftE_no (by omega)]
    exact Ev.congr (fun k => by rw [O_szExpS.f, hw, if_pos (by omega)]) (Ev.now _)
open Classical in
/-- The count of one, of those that are less deep than m. -/
noncomputable def GszE (m : Nat) (a b c : Int) (s : ByteArray) (l : List S24) (left : Int) : Option Int := if SizeOf.sizeOf (⟨a, b, c, s, l⟩ : S24) < m ∧ okE ⟨a, b, c, s, l⟩ ∧ 0 ≤ left ∧ left ≤ 1048576 then some (lftE left (szE ⟨a, b, c, s, l⟩)) else none
open Classical in
noncomputable def GszEs (m : Nat) (l : List S24) (left : Int) : Option Int := if (∀ x ∈ l, SizeOf.sizeOf x < m) ∧ okEs l ∧ l.length ≤ maxLen ∧ 0 ≤ left ∧ left ≤ 1048576 then some (lftE left (szEs l)) else none
theorem szEs_made {m : Nat} (h : C_szExp (GszE m)) : C_szExpS (GszEs m) := by
  intro A0 c0 l0 a1 r w hr0 hc0 hs
  unfold GszEs at hs
  by_cases hc : (∀ x ∈ l0, SizeOf.sizeOf x < m) ∧ okEs l0 ∧ l0.length ≤ maxLen ∧ 0 ≤ a1 ∧ a1 ≤ 1048576
  · rw [if_pos hc] at hs
    obtain rfl := Option.some.inj hs
    obtain ⟨h1, h2, h3, h4, h5⟩ := hc
    have ev := szS_ev (GszE m) l0 (fun x hx a ha hb => by have q1 := h1 x hx; have q2 := okEs_mem h2 x hx; cases x; exact if_pos ⟨q1, q2, ha, hb⟩) h3 a1 h4 h5
    obtain ⟨k, hk⟩ := ev.rounds
    exact O_szExpS.calls (GszE m) ⟨h⟩ k A0 c0 l0 a1 _ w hr0 hc0 hk
  · rw [if_neg hc] at hs
    cases hs
theorem szE_made : ∀ m, C_szExp (GszE m)
  | 0 => by
    intro a0_0 a0_1 a0_2 a0_3 A0_4 c0_4 l0_4 a1 r w hr hc h
    unfold GszE at h
    rw [if_neg (fun h => absurd h.1 (Nat.not_lt_zero _))] at h
    cases h
  | m + 1 => by
    intro a0_0 a0_1 a0_2 a0_3 A0_4 c0_4 l0_4 a1 r w hr hc h
    unfold GszE at h
    by_cases hh : SizeOf.sizeOf (⟨a0_0, a0_1, a0_2, a0_3, l0_4⟩ : S24) < m + 1 ∧ okE ⟨a0_0, a0_1, a0_2, a0_3, l0_4⟩ ∧ 0 ≤ a1 ∧ a1 ≤ 1048576
    · rw [if_pos hh] at h
      obtain rfl := Option.some.inj h
      obtain ⟨h1, h2, h3, h4⟩ := hh
      rw [okE_eq] at h2
      obtain ⟨k1, k2, k3⟩ := h2
      have k1' := k1
      unfold maxLen at k1'
      dsimp only at k1'
      refine O_szExp.calls (GszEs m) ⟨szEs_made (szE_made m)⟩ a0_0 a0_1 a0_2 a0_3 A0_4 c0_4 l0_4 a1 _ w hr hc ?_
      have hw : wrap64 (a1 - (a0_3.size : Int)) = a1 - (a0_3.size : Int) := wrap_ok (by omega) (by omega)
      rw [O_szExp.f, hw, szE_eq]
      dsimp only
      by_cases hz : (a0_3.size : Int) ≤ a1
      · have hg : GszEs m l0_4 (a1 - (a0_3.size : Int)) = some (lftE (a1 - (a0_3.size : Int)) (szEs l0_4)) := by
          unfold GszEs
          rw [if_pos ⟨fun x hx => by have := kidL_lt (x := ⟨a0_0, a0_1, a0_2, a0_3, l0_4⟩) hx; omega, k3, k2, by omega, by omega⟩]
        rw [if_neg (by omega), hg, Option.bind_some, lftE_add hz]
        by_cases hy : ((a0_3.size + szEs l0_4 : Nat) : Int) ≤ a1
        · rw [lftE_yes hy, if_neg (by omega)]
        · rw [lftE_no hy, if_pos (by omega)]
      · rw [if_pos (by omega), lftE_no (by omega)]
    · rw [if_neg hh] at h
      cases h
/-- The count of an expression. -/
def laws_szExp.f (a b c : Int) (s : ByteArray) (l : List S24) (left : Int) : Option Int := if okB ⟨a, b, c, s, l⟩ = true ∧ 0 ≤ left ∧ left ≤ 1048576 then some (lftE left (szE ⟨a, b, c, s, l⟩)) else none
theorem calls_szExp : C_szExp laws_szExp.f := by
  intro a0_0 a0_1 a0_2 a0_3 A0_4 c0_4 l0_4 a1 r w hr hc h
  refine szE_made (SizeOf.sizeOf (⟨a0_0, a0_1, a0_2, a0_3, l0_4⟩ : S24) + 1) a0_0 a0_1 a0_2 a0_3 A0_4 c0_4 l0_4 a1 r w hr hc ?_
  unfold laws_szExp.f at h
  unfold GszE
  by_cases hh : okB ⟨a0_0, a0_1, a0_2, a0_3, l0_4⟩ = true ∧ 0 ≤ a1 ∧ a1 ≤ 1048576
  · rw [if_pos hh] at h
    rw [if_pos ⟨Nat.lt_succ_self _, (okB_iff _).1 hh.1, hh.2⟩]
    exact h
  · rw [if_neg hh] at h
    cases h
end Go.Proofs.Ytjcggilkfofiaaa.P
namespace Go.Proofs.Ytjcggilkfofiaaa.P
open Go.RowKit Go.Proofs.YtjcggilkfofiaaaW.PrintWords Go.Proofs.YtjcggilkfofiaaaW.PrintLast Go.Proofs.YtjcggilkfofiaaaW.PrintMore
attribute [local go_sem] max2_int min2_int max_two min_two max_three min_three max_four min_four   -- for this text's walks alone
set_option linter.unusedVariables false
set_option linter.unusedSimpArgs false

/-! ### O_toExp: function 11 -/
def O_toExp.f (GtoExpS : List (S24) → Option ((List (S29)))) (a0_0 : Int) (a0_1 : Int) (a0_2 : Int) (a0_3 : ByteArray) (l0_4 : List (S24)) : Option (Int × Int × Int × ByteArray × (List (S29))) := (GtoExpS l0_4).bind fun t104 => (some (a0_0, a0_1, a0_2, a0_3, t104))
set_option maxHeartbeats 8000000 in
set_option maxRecDepth 100000 in
theorem O_toExp.calls (GtoExpS : List (S24) → Option ((List (S29)))) (HtoExpS : Zs0 (∀ (A0 : Option Addr) (c0 : Nat) (l0 : List (S24)) (r : List (S29)) (w : World) (hr0 : Kd.C k24 w A0 l0.length l0) (hc0 : l0.length ≤ c0) (h : GtoExpS l0 = some r), Calls Try.prog 34 #[.slice A0 l0.length c0] w fun e w' => ∃ v0_ : Value, e = .returned (v0_) ∧ Kd.R k29 29 w' w.heap.size (fun _ => True) v0_ r ∧ Below w.heap.size w w')) (a0_0 : Int) (a0_1 : Int) (a0_2 : Int) (a0_3 : ByteArray) (A0_4 : Option Addr) (c0_4 : Nat) (l0_4 : List (S24)) (r1 : Int) (r2 : Int) (r3 : Int) (r4 : ByteArray) (r5 : List (S29)) (w : World) (hr0_4 : Kd.C k24 w A0_4 l0_4.length l0_4) (hc0_4 : l0_4.length ≤ c0_4) (h : O_toExp.f GtoExpS a0_0 a0_1 a0_2 a0_3 l0_4 = some (r1, r2, r3, r4, r5)) :
    Calls Try.prog 11 #[.agg #[.int .i64 a0_0, .int .i64 a0_1, .int .i64 a0_2, .string a0_3, .slice A0_4 l0_4.length c0_4]] w fun e w' => ∃ v4_ : Value, e = .returned (.agg #[.int .i64 r1, .int .i64 r2, .int .i64 r3, .string r4, v4_]) ∧ Kd.R k29 29 w' w.heap.size (fun _ => True) v4_ r5 ∧ Below w.heap.size w w' := by
  have hu24 := Try.underlying24
  have hu29 := Try.underlying29
  have HR0_4 := Zs0.mk hr0_4
  have HC0_4 := Zs0.mk hc0_4
  clear hr0_4 hc0_4
  have HB := Zs0.mk (Below.refl w.heap.size w)
  have H : ((GtoExpS l0_4).bind fun t104 => (some (a0_0, a0_1, a0_2, a0_3, t104))) = some (r1, r2, r3, r4, r5) := h
  clear h
  replace H := Option.bind_eq_some_iff.mp H
  obtain ⟨t104, A20, H⟩ := H
  replace H : (some (a0_0, a0_1, a0_2, a0_3, t104)) = some (r1, r2, r3, r4, r5) := H
  have A2 := Zs0.mk A20
  clear A20
  simp only [Option.some.injEq, Prod.mk.injEq] at H
  obtain ⟨rfl, rfl, rfl, rfl, rfl⟩ := H
  go_enter Try.func11, Try.ntmps11
  go_wp2_with (first | ((with_reducible refine gtD (N := 1) rfl ?_); refine box_event ?hg (N := 1) ?hd (cs := #[.int .i64 a0_0, .int .i64 a0_1, .int .i64 a0_2, .string a0_3, .slice A0_4 l0_4.length c0_4]) (t := 24) ?hr ?_; (case hd => rfl); (case hg => rfl); (case hr => first | (go_simp; done) | (go_simp; rfl)); intro gb101 hg w3 hbox hb; have n0_ := Zs0.mk (blT (by repeat (first | (with_reducible first | exact HB.out | apply blA | apply pbN | apply bl1) | exact HB.out)) hb); have n1_ := Zs0.mk (hbox); have n2_ := Zs0.mk ((by rw [hg]; exact (blZ (by repeat (first | (with_reducible first | exact HB.out | apply blA | apply pbN | apply bl1) | exact HB.out))) : w.heap.size ≤ gb101)); have n3_ := Zs0.mk ((by rw [hg]; exact (blZ (by repeat (first | (with_reducible first | exact HB.out | apply blA | apply pbN | apply bl1) | exact HB.out))) : w.heap.size ≤ gb101)); clear HB; have HB := n0_; have BK101 := n1_; have GW101 := n2_; have GE101 := n3_; clear n0_ n1_ n2_ n3_; clear hb hbox hg) | ((with_reducible refine gtD (N := 2) rfl ?_); refine box_event ?hg (N := 2) ?hd (cs := #[.int .i64 0, .int .i64 0, .int .i64 0, .string (⟨#[]⟩ : ByteArray), .slice none 0 0]) (t := 29) ?hr ?_; (case hd => rfl); (case hg => rfl); (case hr => first | (go_simp; done) | (go_simp; rfl)); intro gb102 hg w4 hbox hb; have n0_ := Zs0.mk (blk_below (g := gb101) (o := .cells #[.int .i64 a0_0, .int .i64 a0_1, .int .i64 a0_2, .string a0_3, .slice A0_4 l0_4.length c0_4] 24 (0, 0)) (by (with_reducible repeat (first | refine bkN ?_ _ | refine bk1 ?_ | refine bkA ?_ _)); exact BK101.out) hb); have n1_ := Zs0.mk (blT (by repeat (first | (with_reducible first | exact HB.out | apply blA | apply pbN | apply bl1 | refine blS ?_ GE101.out) | exact HB.out)) hb); have n2_ := Zs0.mk (hbox); have n3_ := Zs0.mk ((by rw [hg]; exact (blZ (by repeat (first | (with_reducible first | exact HB.out | apply blA | apply pbN | apply bl1 | refine blS ?_ GE101.out) | exact HB.out))) : w.heap.size ≤ gb102)); have n4_ := Zs0.mk ((by rw [hg]; exact (blZ (by repeat (first | (with_reducible first | exact HB.out | apply blA | apply pbN | apply bl1 | refine blS ?_ GE101.out) | exact HB.out))) : w.heap.size ≤ gb102)); have n5_ := Zs0.mk ((by rw [hg]; exact Nat.ne_of_lt (blk_lt (g := gb101) (o := .cells #[.int .i64 a0_0, .int .i64 a0_1, .int .i64 a0_2, .string a0_3, .slice A0_4 l0_4.length c0_4] 24 (0, 0)) (by (with_reducible repeat (first | refine bkN ?_ _ | refine bk1 ?_ | refine bkA ?_ _)); exact BK101.out)) : gb101 ≠ gb102)); have n6_ := Zs0.mk ((by rw [hg]; exact Nat.ne_of_gt (blk_lt (g := gb101) (o := .cells #[.int .i64 a0_0, .int .i64 a0_1, .int .i64 a0_2, .string a0_3, .slice A0_4 l0_4.length c0_4] 24 (0, 0)) (by (with_reducible repeat (first | refine bkN ?_ _ | refine bk1 ?_ | refine bkA ?_ _)); exact BK101.out)) : gb102 ≠ gb101)); clear BK101; clear HB; have BK101 := n0_; have HB := n1_; have BK102 := n2_; have GW102 := n3_; have GE102 := n4_; have NB101_102 := n5_; have NB102_101 := n6_; clear n0_ n1_ n2_ n3_ n4_ n5_ n6_; clear hb hbox hg) | ((with_reducible refine gtD (N := 3) rfl ?_); refine box_event ?hg (N := 3) ?hd (cs := #[.int .i64 0, .int .i64 0, .int .i64 0, .string (⟨#[]⟩ : ByteArray), .slice none 0 0]) (t := 29) ?hr ?_; (case hd => rfl); (case hg => rfl); (case hr => first | (go_simp; done) | (go_simp; rfl)); intro gb103 hg w5 hbox hb; have n0_ := Zs0.mk (blk_below (g := gb101) (o := .cells #[.int .i64 a0_0, .int .i64 a0_1, .int .i64 a0_2, .string a0_3, .slice A0_4 l0_4.length c0_4] 24 (0, 0)) (by (with_reducible repeat (first | refine bkN ?_ _ | refine bk1 ?_ | refine bkA ?_ _)); exact BK101.out) hb); have n1_ := Zs0.mk (blk_below (g := gb102) (o := .cells #[.int .i64 0, .int .i64 0, .int .i64 0, .string (⟨#[]⟩ : ByteArray), .slice none 0 0] 29 (0, 0)) (by (with_reducible repeat (first | refine bkN ?_ _ | refine bk1 ?_ | refine bkA ?_ _)); exact BK102.out) hb); have n2_ := Zs0.mk (blT (by repeat (first | (with_reducible first | exact HB.out | apply blA | apply pbN | apply bl1 | refine blS ?_ GE101.out | refine blS ?_ GE102.out) | exact HB.out)) hb); have n3_ := Zs0.mk (hbox); have n4_ := Zs0.mk ((by rw [hg]; exact (blZ (by repeat (first | (with_reducible first | exact HB.out | apply blA | apply pbN | apply bl1 | refine blS ?_ GE101.out | refine blS ?_ GE102.out) | exact HB.out))) : w.heap.size ≤ gb103)); have n5_ := Zs0.mk ((by rw [hg]; exact (blZ (by repeat (first | (with_reducible first | exact HB.out | apply blA | apply pbN | apply bl1 | refine blS ?_ GE101.out | refine blS ?_ GE102.out) | exact HB.out))) : w.heap.size ≤ gb103)); have n6_ := Zs0.mk ((by rw [hg]; exact Nat.ne_of_lt (blk_lt (g := gb101) (o := .cells #[.int .i64 a0_0, .int .i64 a0_1, .int .i64 a0_2, .string a0_3, .slice A0_4 l0_4.length c0_4] 24 (0, 0)) (by (with_reducible repeat (first | refine bkN ?_ _ | refine bk1 ?_ | refine bkA ?_ _)); exact BK101.out)) : gb101 ≠ gb103)); have n7_ := Zs0.mk ((by rw [hg]; exact Nat.ne_of_gt (blk_lt (g := gb101) (o := .cells #[.int .i64 a0_0, .int .i64 a0_1, .int .i64 a0_2, .string a0_3, .slice A0_4 l0_4.length c0_4] 24 (0, 0)) (by (with_reducible repeat (first | refine bkN ?_ _ | refine bk1 ?_ | refine bkA ?_ _)); exact BK101.out)) : gb103 ≠ gb101)); have n8_ := Zs0.mk ((by rw [hg]; exact Nat.ne_of_lt (blk_lt (g := gb102) (o := .cells #[.int .i64 0, .int .i64 0, .int .i64 0, .string (⟨#[]⟩ : ByteArray), .slice none 0 0] 29 (0, 0)) (by (with_reducible repeat (first | refine bkN ?_ _ | refine bk1 ?_ | refine bkA ?_ _)); exact BK102.out)) : gb102 ≠ gb103)); have n9_ := Zs0.mk ((by rw [hg]; exact Nat.ne_of_gt (blk_lt (g := gb102) (o := .cells #[.int .i64 0, .int .i64 0, .int .i64 0, .string (⟨#[]⟩ : ByteArray), .slice none 0 0] 29 (0, 0)) (by (with_reducible repeat (first | refine bkN ?_ _ | refine bk1 ?_ | refine bkA ?_ _)); exact BK102.out)) : gb103 ≠ gb102)); clear BK101; clear BK102; clear HB; have BK101 := n0_; have BK102 := n1_; have HB := n2_; have BK103 := n3_; have GW103 := n4_; have GE103 := n5_; have NB101_103 := n6_; have NB103_101 := n7_; have NB102_103 := n8_; have NB103_102 := n9_; clear n0_ n1_ n2_ n3_ n4_ n5_ n6_ n7_ n8_ n9_; clear hb hbox hg; have hnb6 := NB101_102.out; have hnc6 := NB102_101.out; have hnb7 := NB101_103.out; have hnc7 := NB103_101.out; obtain ⟨hcz8_0, hcz8_1, hcz8_2, hcz8_3, hcz8_4, hfz8_0, hfz8_1, hfz8_2, hfz8_3, hfz8_4⟩ := bx5 BK101.out; have hnb9 := NB103_102.out; have hnc9 := NB102_103.out; obtain ⟨hcz10_0, hcz10_1, hcz10_2, hcz10_3, hcz10_4, hfz10_0, hfz10_1, hfz10_2, hfz10_3, hfz10_4⟩ := bx5 BK103.out) | ((with_reducible refine gtC (f := 34) rfl ?_); refine goesL_ (some 18) rfl rfl Try.func34 (by kernel_rfl) rfl #[.slice A0_4 l0_4.length c0_4] rfl (by (try simp only [List.map_toArray, List.map_cons, List.map_nil]); first | done | rfl | (simp only [List.length_drop, List.length_take]; rfl)) ?_; (with_reducible refine (HtoExpS.out _ _ l0_4 t104 _ ?side1 ?side2 A2.out).mono ?_); (case side1 => exact Kd.C_below HR0_4.out (by repeat (first | (with_reducible first | exact HB.out | apply blA | apply pbN | apply bl1 | refine blS ?_ GE101.out | refine blS ?_ GE102.out | refine blS ?_ GE103.out) | exact HB.out))); (case side2 => exact HC0_4.out); rintro e w11 ⟨v105, rfl, ho0, hb⟩; refine ⟨_, rfl, ?_⟩; have n0_ := Zs0.mk (Kd.R_lower (Kd.R_newB (Kd.R_newB ho0 (g := gb102) (o := .cells #[.int .i64 0, .int .i64 0, .int .i64 0, .string (⟨#[]⟩ : ByteArray), .slice none 0 0] 29 (0, 0)) (by (with_reducible repeat (first | refine bkN ?_ _ | refine bk1 ?_ | refine bkA ?_ _)); refine blk_far ?_ NB102_103.out _; (with_reducible repeat (first | refine bkN ?_ _ | refine bk1 ?_ | refine bkA ?_ _)); refine blk_far ?_ NB102_103.out _; (with_reducible repeat (first | refine bkN ?_ _ | refine bk1 ?_ | refine bkA ?_ _)); refine blk_far ?_ NB102_103.out _; (with_reducible repeat (first | refine bkN ?_ _ | refine bk1 ?_ | refine bkA ?_ _)); refine blk_far ?_ NB102_103.out _; (with_reducible repeat (first | refine bkN ?_ _ | refine bk1 ?_ | refine bkA ?_ _)); exact BK102.out)) (g := gb103) (o := .cells #[.int .i64 a0_0, .int .i64 a0_1, .int .i64 a0_2, .string a0_3, .slice none 0 0] 29 (0, 0)) (by (with_reducible repeat (first | refine bkN ?_ _ | refine bk1 ?_ | refine bkA ?_ _)); refine blk_put (cs := #[.int .i64 a0_0, .int .i64 a0_1, .int .i64 a0_2, .string (⟨#[]⟩ : ByteArray), .slice none 0 0]) ?_ 3 _ rfl; (with_reducible repeat (first | refine bkN ?_ _ | refine bk1 ?_ | refine bkA ?_ _)); refine blk_put (cs := #[.int .i64 a0_0, .int .i64 a0_1, .int .i64 0, .string (⟨#[]⟩ : ByteArray), .slice none 0 0]) ?_ 2 _ rfl; (with_reducible repeat (first | refine bkN ?_ _ | refine bk1 ?_ | refine bkA ?_ _)); refine blk_put (cs := #[.int .i64 a0_0, .int .i64 0, .int .i64 0, .string (⟨#[]⟩ : ByteArray), .slice none 0 0]) ?_ 1 _ rfl; (with_reducible repeat (first | refine bkN ?_ _ | refine bk1 ?_ | refine bkA ?_ _)); refine blk_put (cs := #[.int .i64 0, .int .i64 0, .int .i64 0, .string (⟨#[]⟩ : ByteArray), .slice none 0 0]) ?_ 0 _ rfl; (with_reducible repeat (first | refine bkN ?_ _ | refine bk1 ?_ | refine bkA ?_ _)); exact BK103.out)) (blZ (by repeat (first | (with_reducible first | exact HB.out | apply blA | apply pbN | apply bl1 | refine blS ?_ GE101.out | refine blS ?_ GE102.out | refine blS ?_ GE103.out) | exact HB.out)))); have n1_ := Zs0.mk (blk_below (g := gb101) (o := .cells #[.int .i64 a0_0, .int .i64 a0_1, .int .i64 a0_2, .string a0_3, .slice A0_4 l0_4.length c0_4] 24 (0, 0)) (by (with_reducible repeat (first | refine bkN ?_ _ | refine bk1 ?_ | refine bkA ?_ _)); refine blk_far ?_ NB101_103.out _; (with_reducible repeat (first | refine bkN ?_ _ | refine bk1 ?_ | refine bkA ?_ _)); refine blk_far ?_ NB101_103.out _; (with_reducible repeat (first | refine bkN ?_ _ | refine bk1 ?_ | refine bkA ?_ _)); refine blk_far ?_ NB101_103.out _; (with_reducible repeat (first | refine bkN ?_ _ | refine bk1 ?_ | refine bkA ?_ _)); refine blk_far ?_ NB101_103.out _; (with_reducible repeat (first | refine bkN ?_ _ | refine bk1 ?_ | refine bkA ?_ _)); exact BK101.out) hb); have n2_ := Zs0.mk (blk_below (g := gb102) (o := .cells #[.int .i64 0, .int .i64 0, .int .i64 0, .string (⟨#[]⟩ : ByteArray), .slice none 0 0] 29 (0, 0)) (by (with_reducible repeat (first | refine bkN ?_ _ | refine bk1 ?_ | refine bkA ?_ _)); refine blk_far ?_ NB102_103.out _; (with_reducible repeat (first | refine bkN ?_ _ | refine bk1 ?_ | refine bkA ?_ _)); refine blk_far ?_ NB102_103.out _; (with_reducible repeat (first | refine bkN ?_ _ | refine bk1 ?_ | refine bkA ?_ _)); refine blk_far ?_ NB102_103.out _; (with_reducible repeat (first | refine bkN ?_ _ | refine bk1 ?_ | refine bkA ?_ _)); refine blk_far ?_ NB102_103.out _; (with_reducible repeat (first | refine bkN ?_ _ | refine bk1 ?_ | refine bkA ?_ _)); exact BK102.out) hb); have n3_ := Zs0.mk (blk_below (g := gb103) (o := .cells #[.int .i64 a0_0, .int .i64 a0_1, .int .i64 a0_2, .string a0_3, .slice none 0 0] 29 (0, 0)) (by (with_reducible repeat (first | refine bkN ?_ _ | refine bk1 ?_ | refine bkA ?_ _)); refine blk_put (cs := #[.int .i64 a0_0, .int .i64 a0_1, .int .i64 a0_2, .string (⟨#[]⟩ : ByteArray), .slice none 0 0]) ?_ 3 _ rfl; (with_reducible repeat (first | refine bkN ?_ _ | refine bk1 ?_ | refine bkA ?_ _)); refine blk_put (cs := #[.int .i64 a0_0, .int .i64 a0_1, .int .i64 0, .string (⟨#[]⟩ : ByteArray), .slice none 0 0]) ?_ 2 _ rfl; (with_reducible repeat (first | refine bkN ?_ _ | refine bk1 ?_ | refine bkA ?_ _)); refine blk_put (cs := #[.int .i64 a0_0, .int .i64 0, .int .i64 0, .string (⟨#[]⟩ : ByteArray), .slice none 0 0]) ?_ 1 _ rfl; (with_reducible repeat (first | refine bkN ?_ _ | refine bk1 ?_ | refine bkA ?_ _)); refine blk_put (cs := #[.int .i64 0, .int .i64 0, .int .i64 0, .string (⟨#[]⟩ : ByteArray), .slice none 0 0]) ?_ 0 _ rfl; (with_reducible repeat (first | refine bkN ?_ _ | refine bk1 ?_ | refine bkA ?_ _)); exact BK103.out) hb); have n4_ := Zs0.mk (blT (by repeat (first | (with_reducible first | exact HB.out | apply blA | apply pbN | apply bl1 | refine blS ?_ GE101.out | refine blS ?_ GE102.out | refine blS ?_ GE103.out) | exact HB.out)) hb); clear BK101; clear BK102; clear BK103; clear HB; have HO106 := n0_; have BK101 := n1_; have BK102 := n2_; have BK103 := n3_; have HB := n4_; clear n0_ n1_ n2_ n3_ n4_; (try clear hb); (try clear hb2); (try clear hk); (try clear hi); (try clear ho0); obtain ⟨Ao12, co12, eo12⟩ := Kd.R_slice HO106.out; subst eo12; obtain ⟨hcz13_0, hcz13_1, hcz13_2, hcz13_3, hcz13_4, hfz13_0, hfz13_1, hfz13_2, hfz13_3, hfz13_4⟩ := bx5 BK103.out; obtain ⟨hcz14_0, hcz14_1, hcz14_2, hcz14_3, hcz14_4, hfz14_0, hfz14_1, hfz14_2, hfz14_3, hfz14_4⟩ := bx5 BK102.out))
  refine bodyPost_ret (results_cell_row rfl _ _ gb102 29 #[.int .i64 a0_0, .int .i64 a0_1, .int .i64 a0_2, .string a0_3, .slice Ao12 t104.length co12] (0, 0) _ rfl (by (with_reducible repeat (first | refine bkN ?_ _ | refine bk1 ?_ | refine bkA ?_ _)); refine blk_put (cs := #[.int .i64 a0_0, .int .i64 a0_1, .int .i64 a0_2, .string a0_3, .slice none 0 0]) ?_ 4 _ rfl; (with_reducible repeat (first | refine bkN ?_ _ | refine bk1 ?_ | refine bkA ?_ _)); refine blk_put (cs := #[.int .i64 a0_0, .int .i64 a0_1, .int .i64 a0_2, .string (⟨#[]⟩ : ByteArray), .slice none 0 0]) ?_ 3 _ rfl; (with_reducible repeat (first | refine bkN ?_ _ | refine bk1 ?_ | refine bkA ?_ _)); refine blk_put (cs := #[.int .i64 a0_0, .int .i64 a0_1, .int .i64 0, .string (⟨#[]⟩ : ByteArray), .slice none 0 0]) ?_ 2 _ rfl; (with_reducible repeat (first | refine bkN ?_ _ | refine bk1 ?_ | refine bkA ?_ _)); refine blk_put (cs := #[.int .i64 a0_0, .int .i64 0, .int .i64 0, .string (⟨#[]⟩ : ByteArray), .slice none 0 0]) ?_ 1 _ rfl; (with_reducible repeat (first | refine bkN ?_ _ | refine bk1 ?_ | refine bkA ?_ _)); refine blk_put (cs := #[.int .i64 0, .int .i64 0, .int .i64 0, .string (⟨#[]⟩ : ByteArray), .slice none 0 0]) ?_ 0 _ rfl; (with_reducible repeat (first | refine bkN ?_ _ | refine bk1 ?_ | refine bkA ?_ _)); refine blk_far ?_ NB102_103.out _; (with_reducible repeat (first | refine bkN ?_ _ | refine bk1 ?_ | refine bkA ?_ _)); exact BK102.out) Try.underlying29 rfl (by kernel_rfl)) rfl ?_
  exact ⟨_, by first | rfl | (simp [eWn, eWs] <;> rfl) | (simp [*, eWn, eWs] <;> rfl), by (with_reducible repeat (first | apply Kd.R_alloc | apply Kd.R_drewN | apply Kd.R_drew)); exact Kd.R_mono (Kd.R_far (p := ⟨gb102, 4, none⟩) (Kd.R_far (p := ⟨gb102, 3, none⟩) (Kd.R_far (p := ⟨gb102, 2, none⟩) (Kd.R_far (p := ⟨gb102, 1, none⟩) (Kd.R_far (p := ⟨gb102, 0, none⟩) (Kd.R_far (p := ⟨gb103, 4, none⟩) (Kd.R_mono (Kd.R_mono HO106.out (fun k_ hk => (⟨hk, hk.2⟩ : _ ∧ k_ ≠ gb103))) (fun k_ hk => (⟨hk, hk.1.1.2⟩ : _ ∧ k_ ≠ gb102))) (fun _ hk => hk.1.2) (.slice Ao12 t104.length co12)) (fun _ hk => hk.2) (.int .i64 a0_0)) (fun _ hk => hk.2) (.int .i64 a0_1)) (fun _ hk => hk.2) (.int .i64 a0_2)) (fun _ hk => hk.2) (.string a0_3)) (fun _ hk => hk.2) (.slice Ao12 t104.length co12)) (fun _ hk => trivial), by repeat (first | (with_reducible first | exact HB.out | apply blA | apply pbN | apply bl1 | refine blS ?_ GE101.out | refine blS ?_ GE102.out | refine blS ?_ GE103.out) | exact HB.out)⟩

end Go.Proofs.Ytjcggilkfofiaaa.P
namespace Go.Proofs.Ytjcggilkfofiaaa.P
open Go.RowKit Go.Proofs.YtjcggilkfofiaaaW.PrintWords Go.Proofs.YtjcggilkfofiaaaW.PrintLast Go.Proofs.YtjcggilkfofiaaaW.PrintMore
attribute [local go_sem] max2_int min2_int max_two min_two max_three min_three max_four min_four   -- for this text's walks alone
set_option linter.unusedVariables false
set_option linter.unusedSimpArgs false

/-! ### O_toExpS: function 34 -/
def O_toExpS.l0 (GtoExp : Int → Int → Int → ByteArray → List (S24) → Option (Int × Int × Int × ByteArray × (List (S29)))) : Nat → List (S24) → List (S29) → Int → Option ((List (S29)))
  | 0, _, _, _ => none
  | k + 1, x0, x3, x4 => if x4 < (x0.length : Int) then (if 0 ≤ x4 then ((GtoExp ((rd_T24 x0 x4).f0) ((rd_T24 x0 x4).f1) ((rd_T24 x0 x4).f2) ((rd_T24 x0 x4).f3) ((rd_T24 x0 x4).f4)).bind fun bt105 => (if x4 < (x3.length : Int) then (O_toExpS.l0 GtoExp k x0 (x3.set (x4 : Int).toNat (⟨bt105.1, bt105.2.1, bt105.2.2.1, bt105.2.2.2.1, bt105.2.2.2.2⟩ : S29)) (wrap64 (x4 + 1))) else (none))) else (none)) else (some x3)
def O_toExpS.f (GtoExp : Int → Int → Int → ByteArray → List (S24) → Option (Int × Int × Int × ByteArray × (List (S29)))) (k : Nat) (l0 : List (S24)) : Option ((List (S29))) := if 0 ≤ (l0.length : Int) then (if ((l0.length : Int) : Int).toNat ≤ 4398046511104 then (O_toExpS.l0 GtoExp k l0 (List.replicate ((l0.length : Int) : Int).toNat z29) 0) else (none)) else (none)
theorem O_toExpS.mono_l (GtoExp : Int → Int → Int → ByteArray → List (S24) → Option (Int × Int × Int × ByteArray × (List (S29)))) : ∀ k, (∀ y0 y1 y2, LeO (O_toExpS.l0 GtoExp k y0 y1 y2) (O_toExpS.l0 GtoExp (k + 1) y0 y1 y2))
  | 0 => fun _ _ _ r h => by simp [O_toExpS.l0] at h
  | k + 1 => by
    have ih0 := O_toExpS.mono_l GtoExp k
    · intro y0 y1 y2
      unfold O_toExpS.l0
      repeat' first
      | (with_reducible exact ih0 _ _ _)
      | (with_reducible exact LeO.refl _)
      | (with_reducible exact LeO.none _)
      | (with_reducible refine LeO.ite ?_ ?_)
      | (with_reducible refine LeO.bind ?_ (fun _ => ?_))
      | exact ih0 _ _ _
      | exact LeO.none _
      | refine LeO.ite ?_ ?_
      | refine LeO.bind ?_ (fun _ => ?_)
theorem O_toExpS.mono (GtoExp : Int → Int → Int → ByteArray → List (S24) → Option (Int × Int × Int × ByteArray × (List (S29)))) : ∀ a0 k, LeO (O_toExpS.f GtoExp k a0) (O_toExpS.f GtoExp (k + 1) a0) := by
  intro a0 k
  have ih0 := O_toExpS.mono_l GtoExp k
  unfold O_toExpS.f
  repeat' first
      | (with_reducible exact ih0 _ _ _)
      | (with_reducible exact LeO.refl _)
      | (with_reducible exact LeO.none _)
      | (with_reducible refine LeO.ite ?_ ?_)
      | (with_reducible refine LeO.bind ?_ (fun _ => ?_))
      | exact ih0 _ _ _
      | exact LeO.none _
      | refine LeO.ite ?_ ?_
      | refine LeO.bind ?_ (fun _ => ?_)
set_option maxHeartbeats 8000000 in
set_option maxRecDepth 100000 in
theorem O_toExpS.calls (GtoExp : Int → Int → Int → ByteArray → List (S24) → Option (Int × Int × Int × ByteArray × (List (S29)))) (HtoExp : Zs0 (∀ (a0_0 : Int) (a0_1 : Int) (a0_2 : Int) (a0_3 : ByteArray) (A0_4 : Option Addr) (c0_4 : Nat) (l0_4 : List (S24)) (r1 : Int) (r2 : Int) (r3 : Int) (r4 : ByteArray) (r5 : List (S29)) (w : World) (hr0_4 : Kd.C k24 w A0_4 l0_4.length l0_4) (hc0_4 : l0_4.length ≤ c0_4) (h : GtoExp a0_0 a0_1 a0_2 a0_3 l0_4 = some (r1, r2, r3, r4, r5)), Calls Try.prog 11 #[.agg #[.int .i64 a0_0, .int .i64 a0_1, .int .i64 a0_2, .string a0_3, .slice A0_4 l0_4.length c0_4]] w fun e w' => ∃ v4_ : Value, e = .returned (.agg #[.int .i64 r1, .int .i64 r2, .int .i64 r3, .string r4, v4_]) ∧ Kd.R k29 29 w' w.heap.size (fun _ => True) v4_ r5 ∧ Below w.heap.size w w')) (k : Nat) (A0 : Option Addr) (c0 : Nat) (l0 : List (S24)) (r : List (S29)) (w : World) (hr0 : Kd.C k24 w A0 l0.length l0) (hc0 : l0.length ≤ c0) (h : O_toExpS.f GtoExp k l0 = some r) :
    Calls Try.prog 34 #[.slice A0 l0.length c0] w fun e w' => ∃ v0_ : Value, e = .returned (v0_) ∧ Kd.R k29 29 w' w.heap.size (fun _ => True) v0_ r ∧ Below w.heap.size w w' := by
  have hu24 := Try.underlying24
  have hu29 := Try.underlying29
  have HR0 := Zs0.mk hr0
  have HC0 := Zs0.mk hc0
  clear hr0 hc0
  have HB := Zs0.mk (Below.refl w.heap.size w)
  have H : (if 0 ≤ (l0.length : Int) then (if ((l0.length : Int) : Int).toNat ≤ 4398046511104 then (O_toExpS.l0 GtoExp k l0 (List.replicate ((l0.length : Int) : Int).toNat z29) 0) else (none)) else (none)) = some r := h
  clear h
  by_cases c2 : 0 ≤ (l0.length : Int)
  · rw [if_pos c2] at H
    have c2b0 := eq_true c2
    have c2b1 : decide (0 ≤ (l0.length : Int)) = true := decide_eq_true c2
    clear c2
    by_cases c3 : ((l0.length : Int) : Int).toNat ≤ 4398046511104
    · rw [if_pos c3] at H
      have c3b0 := eq_true c3
      have c3b1 : decide (((l0.length : Int) : Int).toNat ≤ 4398046511104) = true := decide_eq_true c3
      clear c3
      obtain ⟨y101, hy101⟩ : ∃ y_ : List (S29), y_ = (List.replicate ((l0.length : Int) : Int).toNat z29) := ⟨_, rfl⟩
      replace H : (O_toExpS.l0 GtoExp k l0 y101 0) = some r := by first | (rw [hy101]; with_reducible exact H) | (have H2_ := (Option.bind_some _ _).symm.trans H; rw [hy101]; with_reducible exact H2_) | (have H2_ := (Option.bind_some _ _).symm.trans H; with_reducible exact H2_) | with_reducible exact H | (rw [hy101]; exact H) | exact H
      have Ny101 := Zs0.mk hy101
      clear hy101
      have H' := Zs0.mk H
      clear H
      go_enter Try.func34, Try.ntmps34
      go_wp2_with (first | ((with_reducible refine gtD (N := 7) rfl ?_); refine Kd.R_make k29 _ 29 rfl (N := 7) rfl 27 _ _ rfl (l0.length : Int) rfl rfl Try.underlying27 (.agg #[(.int .i64 0), (.int .i64 0), (.int .i64 0), (.string ⟨#[]⟩), (.slice none 0 0)]) 64 info29 rfl (by decide) (by omega) z29 (ok := fun _ => True) (okp := fun _ => True) (k29_mkM _ _ _ z29 (Kd.R_nil _ _ _ _ _)) (fun _ hk => hk) trivial (of_decide_eq_true (by first | (with_reducible assumption) | assumption)) (Nat.le_trans (Nat.mul_le_mul_right _ (of_decide_eq_true (by first | (with_reducible assumption) | assumption) : (l0.length : Int).toNat ≤ 4398046511104)) (by omega)) (Below.refl _ _) (Nat.le_refl _) ?_; intro v102 w4 ho5 hb hg_ hnew_; clear hg_ hnew_; (first | rw [← Ny101.out] at ho5 | (simp only [Int.reduceToNat] at ho5; rw [← Ny101.out] at ho5)); have n0_ := Zs0.mk (Kd.R_lower ho5 (blZ (by repeat (first | (with_reducible first | exact HB.out | apply blA | apply pbN | apply bl1) | exact HB.out)))); have n1_ := Zs0.mk (blT (by repeat (first | (with_reducible first | exact HB.out | apply blA | apply pbN | apply bl1) | exact HB.out)) hb); clear HB; have HO103 := n0_; have HB := n1_; clear n0_ n1_; clear hb ho5))
      go_loopg [4] k (fun kq v4 w' => ∃ (x3_1 : List (S29)) (x4_1 : Int), v4 = .int .i64 x4_1 ∧ Zs0 (O_toExpS.l0 GtoExp kq l0 x3_1 x4_1 = some r) ∧ Zs0 (kq ≤ k) ∧ Zs0 (Kd.R k29 29 w' w.heap.size (fun _ => True) v102 x3_1) ∧ Zs0 (Below w.heap.size w w'))
      case atStart => exact ⟨(y101), (0), (by first | rfl | (simp; done) | (simp [*]; done)), H', ⟨Nat.le_refl _⟩, ⟨by (with_reducible repeat (first | apply Kd.R_alloc | apply Kd.R_drewN | apply Kd.R_drew)); exact HO103.out⟩, ⟨by repeat (first | (with_reducible first | exact HB.out | apply blA | apply pbN | apply bl1) | exact HB.out)⟩⟩
      case round =>
        clear H'
        try clear c2
        try clear c2b0
        try clear c2b1
        try clear p2
        try clear c3
        try clear c3b0
        try clear c3b1
        obtain ⟨x3_1, x4_1, rfl, HA, HK1, HO_3, HB⟩ := hrel
        cases gk with
        | zero => exact absurd HA.out (by simp [O_toExpS.l0])
        | succ k1 =>
          have H := HA.out
          clear HA
          simp only [O_toExpS.l0] at H
          by_cases c6 : x4_1 < (l0.length : Int)
          · rw [if_pos c6] at H
            have c6b0 : decide (x4_1 < (l0.length : Int)) = true := decide_eq_true c6
            clear c6
            by_cases c7 : 0 ≤ x4_1
            · rw [if_pos c7] at H
              have c7b0 : decide (0 ≤ x4_1) = true := decide_eq_true c7
              clear c7
              replace H := Option.bind_eq_some_iff.mp H
              obtain ⟨⟨t105, t106, t107, t108, t109⟩, A80, H⟩ := H
              replace H : (if x4_1 < (x3_1.length : Int) then (O_toExpS.l0 GtoExp k1 l0 (x3_1.set (x4_1 : Int).toNat (⟨t105, t106, t107, t108, t109⟩ : S29)) (wrap64 (x4_1 + 1))) else (none)) = some r := H
              have A8 := Zs0.mk A80
              clear A80
              by_cases c9 : x4_1 < (x3_1.length : Int)
              · rw [if_pos c9] at H
                have c9b0 : decide (x4_1 < (x3_1.length : Int)) = true := decide_eq_true c9
                clear c9
                obtain ⟨y112, hy112⟩ : ∃ y_ : List (S29), y_ = (x3_1.set (x4_1 : Int).toNat (⟨t105, t106, t107, t108, t109⟩ : S29)) := ⟨_, rfl⟩
                replace H : (O_toExpS.l0 GtoExp k1 l0 y112 (wrap64 (x4_1 + 1))) = some r := by first | (rw [hy112]; with_reducible exact H) | (have H2_ := (Option.bind_some _ _).symm.trans H; rw [hy112]; with_reducible exact H2_) | (have H2_ := (Option.bind_some _ _).symm.trans H; with_reducible exact H2_) | with_reducible exact H | (rw [hy112]; exact H) | exact H
                have Ny112 := Zs0.mk hy112
                clear hy112
                have H' := Zs0.mk H
                clear H
                have p104 : 0 ≤ (x4_1 : Int) := of_decide_eq_true (by first | (with_reducible assumption) | assumption)
                have q104 : x4_1 < (l0.length : Int) := of_decide_eq_true (by first | (with_reducible assumption) | assumption)
                obtain ⟨ad104, A104_4, c104_4, e104, hx104_0, hx104_1, hx104_2, hx104_3, hx104_4, hl104_4, hi104_4⟩ := at_T24 HR0.out x4_1 p104 q104
                cases e104
                replace hx104_0 := (HB.out.cell (World.block_lt_of_cell? w _ hx104_0)).trans hx104_0
                replace hx104_1 := (HB.out.cell (World.block_lt_of_cell? w _ hx104_1)).trans hx104_1
                replace hx104_2 := (HB.out.cell (World.block_lt_of_cell? w _ hx104_2)).trans hx104_2
                replace hx104_3 := (HB.out.cell (World.block_lt_of_cell? w _ hx104_3)).trans hx104_3
                replace hx104_4 := (HB.out.cell (World.block_lt_of_cell? w _ hx104_4)).trans hx104_4
                have HR104_4 := Zs0.mk hi104_4
                have HC104_4 := Zs0.mk hl104_4
                clear hi104_4 hl104_4
                replace p104 := eq_true p104
                replace q104 := eq_true q104
                go_wp2_with (first | ((with_reducible refine gtC (f := 11) rfl ?_); refine goesL_ (some 20) rfl rfl Try.func11 (by kernel_rfl) rfl #[.agg #[.int .i64 ((rd_T24 l0 x4_1).f0), .int .i64 ((rd_T24 l0 x4_1).f1), .int .i64 ((rd_T24 l0 x4_1).f2), .string ((rd_T24 l0 x4_1).f3), .slice A104_4 ((rd_T24 l0 x4_1).f4).length c104_4]] rfl (by (try simp only [List.map_toArray, List.map_cons, List.map_nil]); first | done | rfl | (simp only [List.length_drop, List.length_take]; rfl)) ?_; (with_reducible refine (HtoExp.out ((rd_T24 l0 x4_1).f0) ((rd_T24 l0 x4_1).f1) ((rd_T24 l0 x4_1).f2) ((rd_T24 l0 x4_1).f3) _ _ ((rd_T24 l0 x4_1).f4) t105 t106 t107 t108 t109 _ ?side1 ?side2 A8.out).mono ?_); (case side1 => repeat (first | exact (Kd.C_below HR104_4.out HB.out) | (with_reducible refine Kd.C_alloc ?_ _) | (with_reducible refine Kd.C_drewN ?_ _) | (with_reducible refine Kd.C_drew ?_))); (case side2 => exact HC104_4.out); rintro e w11 ⟨v110, rfl, ho0, hb⟩; refine ⟨_, rfl, ?_⟩; have hv110_ : ∀ (a_ : Addr) (m_ : Mode) (W_ : World), (store a_ v110 m_).run Try.prog W_ = stored Try.prog W_ a_ v110 m_ := fun a_ m_ W_ => run_store Try.prog W_ a_ v110 m_ (Kd.R_val ho0).2; have n0_ := Zs0.mk (Kd.R_elder' (by (with_reducible repeat (first | apply Kd.R_alloc | apply Kd.R_drewN | apply Kd.R_drew)); exact HO_3.out) (Kd.R_base ho0) hb); have n1_ := Zs0.mk (Kd.R_lower (Kd.R_new' ho0 (Kd.R_lt (by (with_reducible repeat (first | apply Kd.R_alloc | apply Kd.R_drewN | apply Kd.R_drew)); exact HO_3.out))) (blZ (by repeat (first | (with_reducible first | exact HB.out | apply blA | apply pbN | apply bl1) | exact HB.out)))); have n2_ := Zs0.mk (blT (by repeat (first | (with_reducible first | exact HB.out | apply blA | apply pbN | apply bl1) | exact HB.out)) hb); clear HO_3; clear HB; have HO_3 := n0_; have HO111 := n1_; have HB := n2_; clear n0_ n1_ n2_; (try clear hb); (try clear hb2); (try clear hk); (try clear hi); (try clear ho0); have p10 : 0 ≤ (x4_1 : Int) := of_decide_eq_true (by first | (with_reducible assumption) | assumption); have q10 : (x4_1 : Int) < ((x3_1.length : Int) : Int) := of_decide_eq_true (by first | (with_reducible assumption) | assumption); obtain ⟨go10, co10, eo10, gb10, gl10, cl10, HG10⟩ := Kd.R_form HO_3.out (by omega); (first | cases eo10 | (injection eo10 with ea_ en_ ec_; (first | subst ea_ | (injection ea_ with ea_; subst ea_)); subst ec_; clear en_)); have GB10 := Zs0.mk gb10; have GG10 := Zs0.mk HG10; clear gb10 gl10 HG10; obtain ⟨ce10, hcl10, hM10, hcc10, hfr10⟩ := Kd.R_elem HO_3.out z29 (x4_1 : Int) p10 q10; obtain ⟨ve10_4, rfl, ge10_4⟩ := k29_openM hM10; have hx10_0 : w11.cell? ⟨go10, (x4_1 : Int).toNat * 5, none⟩ = some (.int .i64 ((rd_T29 x3_1 x4_1).f0)) := hcc10 0 _ rfl; have hx10_1 : w11.cell? ⟨go10, (x4_1 : Int).toNat * 5 + 1, none⟩ = some (.int .i64 ((rd_T29 x3_1 x4_1).f1)) := hcc10 1 _ rfl; have hx10_2 : w11.cell? ⟨go10, (x4_1 : Int).toNat * 5 + 2, none⟩ = some (.int .i64 ((rd_T29 x3_1 x4_1).f2)) := hcc10 2 _ rfl; have hx10_3 : w11.cell? ⟨go10, (x4_1 : Int).toNat * 5 + 3, none⟩ = some (.string ((rd_T29 x3_1 x4_1).f3)) := hcc10 3 _ rfl; have hx10_4 : w11.cell? ⟨go10, (x4_1 : Int).toNat * 5 + 4, none⟩ = some (ve10_4) := hcc10 4 _ rfl; have hf10_0 : w11.frozen? ⟨go10, (x4_1 : Int).toNat * 5, none⟩ = false := hfr10 0; have hf10_1 : w11.frozen? ⟨go10, (x4_1 : Int).toNat * 5 + 1, none⟩ = false := hfr10 1; have hf10_2 : w11.frozen? ⟨go10, (x4_1 : Int).toNat * 5 + 2, none⟩ = false := hfr10 2; have hf10_3 : w11.frozen? ⟨go10, (x4_1 : Int).toNat * 5 + 3, none⟩ = false := hfr10 3; have hf10_4 : w11.frozen? ⟨go10, (x4_1 : Int).toNat * 5 + 4, none⟩ = false := hfr10 4; clear hcl10 hcc10 hfr10 hM10; replace p10 := eq_true p10; replace q10 := eq_true q10; have n_ := Zs0.mk (Kd.R_mono (ok' := (fun k_ => some k_ ≠ (v110 : Value).ownBlock)) HO_3.out (fun k_ hk => hk.2)); clear HO_3; have HO_3 := n_; clear n_; have HX12 := Zs0.mk (show Kd.R k29 29 w11 w.heap.size (fun _ => True) (.slice (some ⟨go10, 0, none⟩) x3_1.length co10) x3_1 from (by (with_reducible repeat (first | apply Kd.R_alloc | apply Kd.R_drewN | apply Kd.R_drew)); exact Kd.R_mono HO_3.out (fun _ hk => trivial))); obtain ⟨ce12, hcl12, hM12, hcc12, hfr12⟩ := Kd.R_elem HX12.out z29 (x4_1 : Int) (of_decide_eq_true (by first | (with_reducible assumption) | assumption)) (by have h_ : (x4_1 : Int) < ((x3_1.length : Int) : Int) := of_decide_eq_true (by first | (with_reducible assumption) | assumption); first | exact h_ | (have e_ := (Kd.R_reads' HO_3.out).1; omega) | simpa using h_); obtain ⟨ve12_4, rfl, ge12_4⟩ := k29_openM hM12; have HP12 := Kd.R_seg HX12.out (x4_1 : Int) (of_decide_eq_true (by first | (with_reducible assumption) | assumption)) (by have h_ : (x4_1 : Int) < ((x3_1.length : Int) : Int) := of_decide_eq_true (by first | (with_reducible assumption) | assumption); first | exact h_ | (have e_ := (Kd.R_reads' HO_3.out).1; omega) | simpa using h_) (seg := [.int .i64 t105, .int .i64 t106, .int .i64 t107, .string t108, v110]) (j := 0) hcl12 hcc12 (show 5 ≤ 5 from by decide) (x' := (⟨t105, t106, t107, t108, t109⟩ : S29)) (k29_mkM _ _ _ (⟨t105, t106, t107, t108, t109⟩ : S29) (Kd.R_mono (HO111.out) (fun k_ hk => ⟨trivial, fun e_ => (hk.2) (by rw [e_]; rfl)⟩))) (fun _ hk => hk); have hx12_0 := hcc12 0 _ rfl; (try simp only [show (k29).sz = 5 from rfl, Nat.mul_one, Nat.add_zero] at hx12_0); have hf12_0 := hfr12 0; (try simp only [show (k29).sz = 5 from rfl, Nat.mul_one, Nat.add_zero] at hf12_0); have hx12_1 := hcc12 1 _ rfl; (try simp only [show (k29).sz = 5 from rfl, Nat.mul_one, Nat.add_zero] at hx12_1); have hf12_1 := hfr12 1; (try simp only [show (k29).sz = 5 from rfl, Nat.mul_one, Nat.add_zero] at hf12_1); have hx12_2 := hcc12 2 _ rfl; (try simp only [show (k29).sz = 5 from rfl, Nat.mul_one, Nat.add_zero] at hx12_2); have hf12_2 := hfr12 2; (try simp only [show (k29).sz = 5 from rfl, Nat.mul_one, Nat.add_zero] at hf12_2); have hx12_3 := hcc12 3 _ rfl; (try simp only [show (k29).sz = 5 from rfl, Nat.mul_one, Nat.add_zero] at hx12_3); have hf12_3 := hfr12 3; (try simp only [show (k29).sz = 5 from rfl, Nat.mul_one, Nat.add_zero] at hf12_3); have hx12_4 := hcc12 4 _ rfl; (try simp only [show (k29).sz = 5 from rfl, Nat.mul_one, Nat.add_zero] at hx12_4); have hf12_4 := hfr12 4; (try simp only [show (k29).sz = 5 from rfl, Nat.mul_one, Nat.add_zero] at hf12_4); clear hcl12 hcc12 hfr12 hM12) | ((with_reducible refine gate_store (t := 29) (p := 21) rfl ?_); refine store_event (t := 29) (p := 21) (v := ?vo_w13) (w1 := (((((w11.setCell ⟨go10, (x4_1 : Int).toNat * 5, none⟩ (.int .i64 t105)).setCell ⟨go10, (x4_1 : Int).toNat * 5 + 1, none⟩ (.int .i64 t106)).setCell ⟨go10, (x4_1 : Int).toNat * 5 + 2, none⟩ (.int .i64 t107)).setCell ⟨go10, (x4_1 : Int).toNat * 5 + 3, none⟩ (.string t108)).setCell ⟨go10, (x4_1 : Int).toNat * 5 + 4, none⟩ (v110))) ?hg ?ho ?hn ?hr ?_; (case ho => rfl); (case hg => rfl); (case hn => rfl); (case hr => first | (go_simp; done) | (go_simp; rfl)); intro w13 hw; have hg : w11.grownBy w13 (some go10) := (by rw [hw]; exact HP12.2); have hp_ : Kd.R k29 29 w13 w.heap.size (fun _ => True) (.slice (some ⟨go10, 0, none⟩) x3_1.length co10) y112 := (by rw [hw, Ny112.out]; exact HP12.1); clear HP12; have n0_ := Zs0.mk (hp_); have n1_ := Zs0.mk ((by rw [hw]; exact blS (blS (blS (blS (blS (HB.out) GB10.out) GB10.out) GB10.out) GB10.out) GB10.out : Below w.heap.size w w13)); clear HO_3; clear HB; clear HO111; have HO_3 := n0_; have HB := n1_; clear n0_ n1_; clear hg hw hp_))
                go_roundg k1
                case measure => have := HK1.out; omega
                case rel => exact ⟨(y112), (wrap64 (x4_1 + 1)), (by first | rfl | (simp; done) | (simp [*]; done)), H', ⟨by have := HK1.out; omega⟩, ⟨by (with_reducible repeat (first | apply Kd.R_alloc | apply Kd.R_drewN | apply Kd.R_drew)); exact HO_3.out⟩, ⟨by repeat (first | (with_reducible first | exact HB.out | apply blA | apply pbN | apply bl1) | exact HB.out)⟩⟩
              · rw [if_neg c9] at H
                exact absurd H (by simp)
            · rw [if_neg c7] at H
              exact absurd H (by simp)
          · rw [if_neg c6] at H
            have c6b0 : decide (x4_1 < (l0.length : Int)) = false := decide_eq_false c6
            clear c6
            obtain rfl := Option.some.inj H
            go_wp2
            go_ret
            exact ⟨_, by first | rfl | (simp [eWn, eWs] <;> rfl) | (simp [*, eWn, eWs] <;> rfl), by (with_reducible repeat (first | apply Kd.R_alloc | apply Kd.R_drewN | apply Kd.R_drew)); exact HO_3.out, by repeat (first | (with_reducible first | exact HB.out | apply blA | apply pbN | apply bl1) | exact HB.out)⟩
    · rw [if_neg c3] at H
      exact absurd H (by simp)
  · rw [if_neg c2] at H
    exact absurd H (by simp)

end Go.Proofs.Ytjcggilkfofiaaa.P
namespace Go.Proofs.Ytjcggilkfofiaaa.P
open Go.RowKit Go.Proofs.Ytjcggilkfofiaaa.Ex Go.Proofs.YtjcggilkfofiaaaW.PrintWords Go.Proofs.Ytjcggilkfofiaaa.Aux
set_option linter.unusedVariables false
set_option linter.unusedSimpArgs false
theorem to_loop (G : Int → Int → Int → ByteArray → List S24 → Option (Int × Int × Int × ByteArray × List S29)) (l : List S24) (hG : ∀ x ∈ l, G x.f0 x.f1 x.f2 x.f3 x.f4 = some (x.f0, x.f1, x.f2, x.f3, toEs x.f4)) (hl : l.length ≤ 1048576) (d : Nat) :
    ∀ i : Nat, i + d = l.length → Ev (fun k => O_toExpS.l0 G k l ((l.take i).map toE ++ List.replicate (l.length - i) z29) (i : Int)) (toEs l) := by
  induction d with
  | zero =>
    intro i hi
    refine Ev.step (f := fun _ => some _) (fun k => by rw [O_toExpS.l0, if_neg (by omega)]) ?_
    rw [List.take_of_length_le (by omega), show l.length - i = 0 by omega, toEs_map, List.replicate_zero, List.append_nil]
    exact Ev.now _
  | succ d ih =>
    intro i hi
    have hp : i < l.length := by omega
    have hw : wrap64 ((i : Int) + 1) = ((i + 1 : Nat) : Int) := by rw [wrap_ok (by omega) (by omega)]; omega
    have hg := hG l[i] (List.getElem_mem hp)
    refine Ev.step (fun k => ?_) (ih (i + 1) (by omega))
    have hz : (i : Int) < ((((l.take i).map toE ++ List.replicate (l.length - i) z29).length : Nat) : Int) := by rw [fill_length _ _ _ _ (by omega)]; omega
    rw [O_toExpS.l0, if_pos (by omega), if_pos (by omega), rd_LE l i hp, hg, Option.bind_some, if_pos hz, hw]
    rw [show ((i : Int)).toNat = i by omega, ← set_fill l toE z29 i hp]
    rw [show (toE l[i] : S29) = ⟨l[i].f0, l[i].f1, l[i].f2, l[i].f3, toEs l[i].f4⟩ from toE_eq _]
theorem toS_ev (G : Int → Int → Int → ByteArray → List S24 → Option (Int × Int × Int × ByteArray × List S29)) (l : List S24) (hG : ∀ x ∈ l, G x.f0 x.f1 x.f2 x.f3 x.f4 = some (x.f0, x.f1, x.f2, x.f3, toEs x.f4)) (hl : l.length ≤ 1048576) : Ev (fun k => O_toExpS.f G k l) (toEs l) := by
  have h := to_loop G l hG hl l.length 0 (by omega)
  refine Ev.congr (fun k => ?_) h
  rw [O_toExpS.f, if_pos (by omega), if_pos (by omega), show ((l.length : Int)).toNat = l.length by omega]
  simp
open Classical in
noncomputable def GtoE (m : Nat) (a b c : Int) (s : ByteArray) (l : List S24) : Option (Int × Int × Int × ByteArray × List S29) := if SizeOf.sizeOf (⟨a, b, c, s, l⟩ : S24) < m ∧ szEs l ≤ 1048576 then some (a, b, c, s, toEs l) else none
open Classical in
noncomputable def GtoEs (m : Nat) (l : List S24) : Option (List S29) := if (∀ x ∈ l, SizeOf.sizeOf x < m) ∧ szEs l ≤ 1048576 then some (toEs l) else none
theorem szEs_mem {l : List S24} {x : S24} (h : x ∈ l) : szEs x.f4 ≤ szEs l := by
  have h1 := szR_mem h
  have h2 := szEs_szR l
  have h3 := szE_eq x
  omega
theorem toEs_made {m : Nat} (h : C_toExp (GtoE m)) : C_toExpS (GtoEs m) := by
  intro A0 c0 l0 r w hr0 hc0 hs
  unfold GtoEs at hs
  by_cases hc : (∀ x ∈ l0, SizeOf.sizeOf x < m) ∧ szEs l0 ≤ 1048576
  · rw [if_pos hc] at hs
    obtain rfl := Option.some.inj hs
    have hn := szEs_len l0
    have ev := toS_ev (GtoE m) l0 (fun x hx => by have q1 := hc.1 x hx; have q2 := szEs_mem hx; have q3 := hc.2; cases x; exact if_pos ⟨q1, Nat.le_trans q2 q3⟩) (by omega)
    obtain ⟨k, hk⟩ := ev.rounds
    exact O_toExpS.calls (GtoE m) ⟨h⟩ k A0 c0 l0 _ w hr0 hc0 hk
  · rw [if_neg hc] at hs
    cases hs
theorem toE_made : ∀ m, C_toExp (GtoE m)
  | 0 => by
    intro a0_0 a0_1 a0_2 a0_3 A0_4 c0_4 l0_4 r1 r2 r3 r4 r5 w hr hc h
    unfold GtoE at h
    rw [if_neg (fun h => absurd h.1 (Nat.not_lt_zero _))] at h
    cases h
  | m + 1 => by
    intro a0_0 a0_1 a0_2 a0_3 A0_4 c0_4 l0_4 r1 r2 r3 r4 r5 w hr hc h
    unfold GtoE at h
    by_cases hh : SizeOf.sizeOf (⟨a0_0, a0_1, a0_2, a0_3, l0_4⟩ : S24) < m + 1 ∧ szEs l0_4 ≤ 1048576
    · rw [if_pos hh] at h
      refine O_toExp.calls (GtoEs m) ⟨toEs_made (toE_made m)⟩ a0_0 a0_1 a0_2 a0_3 A0_4 c0_4 l0_4 r1 r2 r3 r4 r5 w hr hc ?_
      have hg : GtoEs m l0_4 = some (toEs l0_4) := by
        unfold GtoEs
        rw [if_pos ⟨fun x hx => by have := kidL_lt (x := ⟨a0_0, a0_1, a0_2, a0_3, l0_4⟩) hx; have := hh.1; omega, hh.2⟩]
      rw [O_toExp.f, hg, Option.bind_some]
      exact h
    · rw [if_neg hh] at h
      cases h
/-- The program's own expression. -/
def laws_toExp.f (a b c : Int) (s : ByteArray) (l : List S24) : Option (Int × Int × Int × ByteArray × List S29) := if szEs l ≤ 1048576 then some (a, b, c, s, toEs l) else none
theorem calls_toExp : C_toExp laws_toExp.f := by
  intro a0_0 a0_1 a0_2 a0_3 A0_4 c0_4 l0_4 r1 r2 r3 r4 r5 w hr hc h
  refine toE_made (SizeOf.sizeOf (⟨a0_0, a0_1, a0_2, a0_3, l0_4⟩ : S24) + 1) a0_0 a0_1 a0_2 a0_3 A0_4 c0_4 l0_4 r1 r2 r3 r4 r5 w hr hc ?_
  unfold laws_toExp.f at h
  unfold GtoE
  by_cases hh : szEs l0_4 ≤ 1048576
  · rw [if_pos hh] at h
    rw [if_pos ⟨Nat.lt_succ_self _, hh⟩]
    exact h
  · rw [if_neg hh] at h
    cases h
end Go.Proofs.Ytjcggilkfofiaaa.P
namespace Go.Proofs.Ytjcggilkfofiaaa.P
open Go.RowKit Go.Proofs.YtjcggilkfofiaaaW.PrintWords Go.Proofs.YtjcggilkfofiaaaW.PrintLast Go.Proofs.YtjcggilkfofiaaaW.PrintMore
attribute [local go_sem] max2_int min2_int max_two min_two max_three min_three max_four min_four   -- for this text's walks alone
set_option linter.unusedVariables false
set_option linter.unusedSimpArgs false

/-! ### O_eqExp: function 13 -/
def O_eqExp.f (GeqExpS : List (S29) → List (S29) → Option (Bool)) (a0_0 : Int) (a0_1 : Int) (a0_2 : Int) (a0_3 : ByteArray) (l0_4 : List (S29)) (a1_0 : Int) (a1_1 : Int) (a1_2 : Int) (a1_3 : ByteArray) (l1_4 : List (S29)) : Option (Bool) := if a0_0 = a1_0 then (if a0_1 = a1_1 then (if a0_2 = a1_2 then (if a0_3.toList = a1_3.toList then ((GeqExpS l0_4 l1_4).bind fun t103 => (if t103 = true then (some true) else (some false))) else (some false)) else (some false)) else (some false)) else (some false)
set_option maxHeartbeats 8000000 in
set_option maxRecDepth 100000 in
theorem O_eqExp.calls (GeqExpS : List (S29) → List (S29) → Option (Bool)) (HeqExpS : Zs0 (∀ (A0 : Option Addr) (c0 : Nat) (l0 : List (S29)) (A1 : Option Addr) (c1 : Nat) (l1 : List (S29)) (r : Bool) (w : World) (hr0 : Kd.C k29 w A0 l0.length l0) (hc0 : l0.length ≤ c0) (hr1 : Kd.C k29 w A1 l1.length l1) (hc1 : l1.length ≤ c1) (h : GeqExpS l0 l1 = some r), Calls Try.prog 36 #[.slice A0 l0.length c0, .slice A1 l1.length c1] w fun e w' => e = .returned (.bool r) ∧ Below w.heap.size w w')) (a0_0 : Int) (a0_1 : Int) (a0_2 : Int) (a0_3 : ByteArray) (A0_4 : Option Addr) (c0_4 : Nat) (l0_4 : List (S29)) (a1_0 : Int) (a1_1 : Int) (a1_2 : Int) (a1_3 : ByteArray) (A1_4 : Option Addr) (c1_4 : Nat) (l1_4 : List (S29)) (r : Bool) (w : World) (hr0_4 : Kd.C k29 w A0_4 l0_4.length l0_4) (hc0_4 : l0_4.length ≤ c0_4) (hr1_4 : Kd.C k29 w A1_4 l1_4.length l1_4) (hc1_4 : l1_4.length ≤ c1_4) (h : O_eqExp.f GeqExpS a0_0 a0_1 a0_2 a0_3 l0_4 a1_0 a1_1 a1_2 a1_3 l1_4 = some r) :
    Calls Try.prog 13 #[.agg #[.int .i64 a0_0, .int .i64 a0_1, .int .i64 a0_2, .string a0_3, .slice A0_4 l0_4.length c0_4], .agg #[.int .i64 a1_0, .int .i64 a1_1, .int .i64 a1_2, .string a1_3, .slice A1_4 l1_4.length c1_4]] w fun e w' => e = .returned (.bool r) ∧ Below w.heap.size w w' := by
  have hu29 := Try.underlying29
  have HR0_4 := Zs0.mk hr0_4
  have HC0_4 := Zs0.mk hc0_4
  clear hr0_4 hc0_4
  have HR1_4 := Zs0.mk hr1_4
  have HC1_4 := Zs0.mk hc1_4
  clear hr1_4 hc1_4
  have HB := Zs0.mk (Below.refl w.heap.size w)
  have H : (if a0_0 = a1_0 then (if a0_1 = a1_1 then (if a0_2 = a1_2 then (if a0_3.toList = a1_3.toList then ((GeqExpS l0_4 l1_4).bind fun t103 => (if t103 = true then (some true) else (some false))) else (some false)) else (some false)) else (some false)) else (some false)) = some r := h
  clear h
  by_cases c3 : a0_0 = a1_0
  · rw [if_pos c3] at H
    have c3b0 : (a0_0 == a1_0) = true := beq_iff_eq.mpr c3
    have c3b1 : (a0_0 != a1_0) = false := bne_eq_false_iff_eq.mpr c3
    clear c3
    by_cases c4 : a0_1 = a1_1
    · rw [if_pos c4] at H
      have c4b0 : (a0_1 == a1_1) = true := beq_iff_eq.mpr c4
      have c4b1 : (a0_1 != a1_1) = false := bne_eq_false_iff_eq.mpr c4
      clear c4
      by_cases c5 : a0_2 = a1_2
      · rw [if_pos c5] at H
        have c5b0 : (a0_2 == a1_2) = true := beq_iff_eq.mpr c5
        have c5b1 : (a0_2 != a1_2) = false := bne_eq_false_iff_eq.mpr c5
        clear c5
        by_cases c6 : a0_3.toList = a1_3.toList
        · rw [if_pos c6] at H
          have c6b0 : (a0_3.toList == a1_3.toList) = true := beq_iff_eq.mpr c6
          have c6b1 : (a0_3.toList != a1_3.toList) = false := bne_eq_false_iff_eq.mpr c6
          clear c6
          replace H := Option.bind_eq_some_iff.mp H
          obtain ⟨t103, A70, H⟩ := H
          replace H : (if t103 = true then (some true) else (some false)) = some r := H
          have A7 := Zs0.mk A70
          clear A70
          by_cases c8 : t103 = true
          · subst c8
            have H1 : (some true) = some r := by rw [if_pos rfl] at H; exact H
            clear H
            have H := H1
            clear H1
            obtain rfl := Option.some.inj H
            go_enter Try.func13, Try.ntmps13
            go_wp2_with (first | ((with_reducible refine gtD (N := 2) rfl ?_); refine box_event ?hg (N := 2) ?hd (cs := #[.int .i64 a0_0, .int .i64 a0_1, .int .i64 a0_2, .string a0_3, .slice A0_4 l0_4.length c0_4]) (t := 29) ?hr ?_; (case hd => rfl); (case hg => rfl); (case hr => first | (go_simp; done) | (go_simp; rfl)); intro gb101 hg w9 hbox hb; have n0_ := Zs0.mk (blT (by repeat (first | (with_reducible first | exact HB.out | apply blA | apply pbN | apply bl1) | exact HB.out)) hb); have n1_ := Zs0.mk (hbox); have n2_ := Zs0.mk ((by rw [hg]; exact (blZ (by repeat (first | (with_reducible first | exact HB.out | apply blA | apply pbN | apply bl1) | exact HB.out))) : w.heap.size ≤ gb101)); have n3_ := Zs0.mk ((by rw [hg]; exact (blZ (by repeat (first | (with_reducible first | exact HB.out | apply blA | apply pbN | apply bl1) | exact HB.out))) : w.heap.size ≤ gb101)); clear HB; have HB := n0_; have BK101 := n1_; have GW101 := n2_; have GE101 := n3_; clear n0_ n1_ n2_ n3_; clear hb hbox hg) | ((with_reducible refine gtD (N := 3) rfl ?_); refine box_event ?hg (N := 3) ?hd (cs := #[.int .i64 a1_0, .int .i64 a1_1, .int .i64 a1_2, .string a1_3, .slice A1_4 l1_4.length c1_4]) (t := 29) ?hr ?_; (case hd => rfl); (case hg => rfl); (case hr => first | (go_simp; done) | (go_simp; rfl)); intro gb102 hg w10 hbox hb; have n0_ := Zs0.mk (blk_below (g := gb101) (o := .cells #[.int .i64 a0_0, .int .i64 a0_1, .int .i64 a0_2, .string a0_3, .slice A0_4 l0_4.length c0_4] 29 (0, 0)) (by (with_reducible repeat (first | refine bkN ?_ _ | refine bk1 ?_ | refine bkA ?_ _)); exact BK101.out) hb); have n1_ := Zs0.mk (blT (by repeat (first | (with_reducible first | exact HB.out | apply blA | apply pbN | apply bl1 | refine blS ?_ GE101.out) | exact HB.out)) hb); have n2_ := Zs0.mk (hbox); have n3_ := Zs0.mk ((by rw [hg]; exact (blZ (by repeat (first | (with_reducible first | exact HB.out | apply blA | apply pbN | apply bl1 | refine blS ?_ GE101.out) | exact HB.out))) : w.heap.size ≤ gb102)); have n4_ := Zs0.mk ((by rw [hg]; exact (blZ (by repeat (first | (with_reducible first | exact HB.out | apply blA | apply pbN | apply bl1 | refine blS ?_ GE101.out) | exact HB.out))) : w.heap.size ≤ gb102)); have n5_ := Zs0.mk ((by rw [hg]; exact Nat.ne_of_lt (blk_lt (g := gb101) (o := .cells #[.int .i64 a0_0, .int .i64 a0_1, .int .i64 a0_2, .string a0_3, .slice A0_4 l0_4.length c0_4] 29 (0, 0)) (by (with_reducible repeat (first | refine bkN ?_ _ | refine bk1 ?_ | refine bkA ?_ _)); exact BK101.out)) : gb101 ≠ gb102)); have n6_ := Zs0.mk ((by rw [hg]; exact Nat.ne_of_gt (blk_lt (g := gb101) (o := .cells #[.int .i64 a0_0, .int .i64 a0_1, .int .i64 a0_2, .string a0_3, .slice A0_4 l0_4.length c0_4] 29 (0, 0)) (by (with_reducible repeat (first | refine bkN ?_ _ | refine bk1 ?_ | refine bkA ?_ _)); exact BK101.out)) : gb102 ≠ gb101)); clear BK101; clear HB; have BK101 := n0_; have HB := n1_; have BK102 := n2_; have GW102 := n3_; have GE102 := n4_; have NB101_102 := n5_; have NB102_101 := n6_; clear n0_ n1_ n2_ n3_ n4_ n5_ n6_; clear hb hbox hg; have hnb11 := NB101_102.out; have hnc11 := NB102_101.out; obtain ⟨hcz12_0, hcz12_1, hcz12_2, hcz12_3, hcz12_4, hfz12_0, hfz12_1, hfz12_2, hfz12_3, hfz12_4⟩ := bx5 BK101.out; obtain ⟨hcz13_0, hcz13_1, hcz13_2, hcz13_3, hcz13_4, hfz13_0, hfz13_1, hfz13_2, hfz13_3, hfz13_4⟩ := bx5 BK102.out) | ((with_reducible refine gtC (f := 36) rfl ?_); refine goesL_ (some 29) rfl rfl Try.func36 (by kernel_rfl) rfl #[.slice A0_4 l0_4.length c0_4, .slice A1_4 l1_4.length c1_4] rfl (by (try simp only [List.map_toArray, List.map_cons, List.map_nil]); first | done | rfl | (simp only [List.length_drop, List.length_take]; rfl)) ?_; (with_reducible refine (HeqExpS.out _ _ l0_4 _ _ l1_4 true _ ?side1 ?side2 ?side3 ?side4 A7.out).mono ?_); (case side1 => repeat (first | exact (Kd.C_below HR0_4.out HB.out) | (with_reducible refine Kd.C_alloc ?_ _) | (with_reducible refine Kd.C_drewN ?_ _) | (with_reducible refine Kd.C_drew ?_))); (case side2 => exact HC0_4.out); (case side3 => repeat (first | exact (Kd.C_below HR1_4.out HB.out) | (with_reducible refine Kd.C_alloc ?_ _) | (with_reducible refine Kd.C_drewN ?_ _) | (with_reducible refine Kd.C_drew ?_))); (case side4 => exact HC1_4.out); rintro e w14 ⟨rfl, hb⟩; refine ⟨_, rfl, ?_⟩; have n0_ := Zs0.mk (blk_below (g := gb101) (o := .cells #[.int .i64 a0_0, .int .i64 a0_1, .int .i64 a0_2, .string a0_3, .slice A0_4 l0_4.length c0_4] 29 (0, 0)) (by (with_reducible repeat (first | refine bkN ?_ _ | refine bk1 ?_ | refine bkA ?_ _)); exact BK101.out) hb); have n1_ := Zs0.mk (blk_below (g := gb102) (o := .cells #[.int .i64 a1_0, .int .i64 a1_1, .int .i64 a1_2, .string a1_3, .slice A1_4 l1_4.length c1_4] 29 (0, 0)) (by (with_reducible repeat (first | refine bkN ?_ _ | refine bk1 ?_ | refine bkA ?_ _)); exact BK102.out) hb); have n2_ := Zs0.mk (blT (by repeat (first | (with_reducible first | exact HB.out | apply blA | apply pbN | apply bl1 | refine blS ?_ GE101.out | refine blS ?_ GE102.out) | exact HB.out)) hb); clear BK101; clear BK102; clear HB; have BK101 := n0_; have BK102 := n1_; have HB := n2_; clear n0_ n1_ n2_; (try clear hb); (try clear hb2); (try clear hk); (try clear hi)))
            go_ret
            exact ⟨by first | rfl | (simp [eWn, eWs] <;> rfl) | (simp [*, eWn, eWs] <;> rfl), by repeat (first | (with_reducible first | exact HB.out | apply blA | apply pbN | apply bl1 | refine blS ?_ GE101.out | refine blS ?_ GE102.out) | exact HB.out)⟩
          · replace c8 := Bool.eq_false_iff.mpr c8
            subst c8
            have H1 : (some false) = some r := by rw [if_neg (show ¬ (false = true) by decide)] at H; exact H
            clear H
            have H := H1
            clear H1
            obtain rfl := Option.some.inj H
            go_enter Try.func13, Try.ntmps13
            go_wp2_with (first | ((with_reducible refine gtD (N := 2) rfl ?_); refine box_event ?hg (N := 2) ?hd (cs := #[.int .i64 a0_0, .int .i64 a0_1, .int .i64 a0_2, .string a0_3, .slice A0_4 l0_4.length c0_4]) (t := 29) ?hr ?_; (case hd => rfl); (case hg => rfl); (case hr => first | (go_simp; done) | (go_simp; rfl)); intro gb101 hg w15 hbox hb; have n0_ := Zs0.mk (blT (by repeat (first | (with_reducible first | exact HB.out | apply blA | apply pbN | apply bl1) | exact HB.out)) hb); have n1_ := Zs0.mk (hbox); have n2_ := Zs0.mk ((by rw [hg]; exact (blZ (by repeat (first | (with_reducible first | exact HB.out | apply blA | apply pbN | apply bl1) | exact HB.out))) : w.heap.size ≤ gb101)); have n3_ := Zs0.mk ((by rw [hg]; exact (blZ (by repeat (first | (with_reducible first | exact HB.out | apply blA | apply pbN | apply bl1) | exact HB.out))) : w.heap.size ≤ gb101)); clear HB; have HB := n0_; have BK101 := n1_; have GW101 := n2_; have GE101 := n3_; clear n0_ n1_ n2_ n3_; clear hb hbox hg) | ((with_reducible refine gtD (N := 3) rfl ?_); refine box_event ?hg (N := 3) ?hd (cs := #[.int .i64 a1_0, .int .i64 a1_1, .int .i64 a1_2, .string a1_3, .slice A1_4 l1_4.length c1_4]) (t := 29) ?hr ?_; (case hd => rfl); (case hg => rfl); (case hr => first | (go_simp; done) | (go_simp; rfl)); intro gb102 hg w16 hbox hb; have n0_ := Zs0.mk (blk_below (g := gb101) (o := .cells #[.int .i64 a0_0, .int .i64 a0_1, .int .i64 a0_2, .string a0_3, .slice A0_4 l0_4.length c0_4] 29 (0, 0)) (by (with_reducible repeat (first | refine bkN ?_ _ | refine bk1 ?_ | refine bkA ?_ _)); exact BK101.out) hb); have n1_ := Zs0.mk (blT (by repeat (first | (with_reducible first | exact HB.out | apply blA | apply pbN | apply bl1 | refine blS ?_ GE101.out) | exact HB.out)) hb); have n2_ := Zs0.mk (hbox); have n3_ := Zs0.mk ((by rw [hg]; exact (blZ (by repeat (first | (with_reducible first | exact HB.out | apply blA | apply pbN | apply bl1 | refine blS ?_ GE101.out) | exact HB.out))) : w.heap.size ≤ gb102)); have n4_ := Zs0.mk ((by rw [hg]; exact (blZ (by repeat (first | (with_reducible first | exact HB.out | apply blA | apply pbN | apply bl1 | refine blS ?_ GE101.out) | exact HB.out))) : w.heap.size ≤ gb102)); have n5_ := Zs0.mk ((by rw [hg]; exact Nat.ne_of_lt (blk_lt (g := gb101) (o := .cells #[.int .i64 a0_0, .int .i64 a0_1, .int .i64 a0_2, .string a0_3, .slice A0_4 l0_4.length c0_4] 29 (0, 0)) (by (with_reducible repeat (first | refine bkN ?_ _ | refine bk1 ?_ | refine bkA ?_ _)); exact BK101.out)) : gb101 ≠ gb102)); have n6_ := Zs0.mk ((by rw [hg]; exact Nat.ne_of_gt (blk_lt (g := gb101) (o := .cells #[.int .i64 a0_0, .int .i64 a0_1, .int .i64 a0_2, .string a0_3, .slice A0_4 l0_4.length c0_4] 29 (0, 0)) (by (with_reducible repeat (first | refine bkN ?_ _ | refine bk1 ?_ | refine bkA ?_ _)); exact BK101.out)) : gb102 ≠ gb101)); clear BK101; clear HB; have BK101 := n0_; have HB := n1_; have BK102 := n2_; have GW102 := n3_; have GE102 := n4_; have NB101_102 := n5_; have NB102_101 := n6_; clear n0_ n1_ n2_ n3_ n4_ n5_ n6_; clear hb hbox hg; have hnb17 := NB101_102.out; have hnc17 := NB102_101.out; obtain ⟨hcz18_0, hcz18_1, hcz18_2, hcz18_3, hcz18_4, hfz18_0, hfz18_1, hfz18_2, hfz18_3, hfz18_4⟩ := bx5 BK101.out; obtain ⟨hcz19_0, hcz19_1, hcz19_2, hcz19_3, hcz19_4, hfz19_0, hfz19_1, hfz19_2, hfz19_3, hfz19_4⟩ := bx5 BK102.out) | ((with_reducible refine gtC (f := 36) rfl ?_); refine goesL_ (some 29) rfl rfl Try.func36 (by kernel_rfl) rfl #[.slice A0_4 l0_4.length c0_4, .slice A1_4 l1_4.length c1_4] rfl (by (try simp only [List.map_toArray, List.map_cons, List.map_nil]); first | done | rfl | (simp only [List.length_drop, List.length_take]; rfl)) ?_; (with_reducible refine (HeqExpS.out _ _ l0_4 _ _ l1_4 false _ ?side1 ?side2 ?side3 ?side4 A7.out).mono ?_); (case side1 => repeat (first | exact (Kd.C_below HR0_4.out HB.out) | (with_reducible refine Kd.C_alloc ?_ _) | (with_reducible refine Kd.C_drewN ?_ _) | (with_reducible refine Kd.C_drew ?_))); (case side2 => exact HC0_4.out); (case side3 => repeat (first | exact (Kd.C_below HR1_4.out HB.out) | (with_reducible refine Kd.C_alloc ?_ _) | (with_reducible refine Kd.C_drewN ?_ _) | (with_reducible refine Kd.C_drew ?_))); (case side4 => exact HC1_4.out); rintro e w20 ⟨rfl, hb⟩; refine ⟨_, rfl, ?_⟩; have n0_ := Zs0.mk (blk_below (g := gb101) (o := .cells #[.int .i64 a0_0, .int .i64 a0_1, .int .i64 a0_2, .string a0_3, .slice A0_4 l0_4.length c0_4] 29 (0, 0)) (by (with_reducible repeat (first | refine bkN ?_ _ | refine bk1 ?_ | refine bkA ?_ _)); exact BK101.out) hb); have n1_ := Zs0.mk (blk_below (g := gb102) (o := .cells #[.int .i64 a1_0, .int .i64 a1_1, .int .i64 a1_2, .string a1_3, .slice A1_4 l1_4.length c1_4] 29 (0, 0)) (by (with_reducible repeat (first | refine bkN ?_ _ | refine bk1 ?_ | refine bkA ?_ _)); exact BK102.out) hb); have n2_ := Zs0.mk (blT (by repeat (first | (with_reducible first | exact HB.out | apply blA | apply pbN | apply bl1 | refine blS ?_ GE101.out | refine blS ?_ GE102.out) | exact HB.out)) hb); clear BK101; clear BK102; clear HB; have BK101 := n0_; have BK102 := n1_; have HB := n2_; clear n0_ n1_ n2_; (try clear hb); (try clear hb2); (try clear hk); (try clear hi)))
            go_ret
            exact ⟨by first | rfl | (simp [eWn, eWs] <;> rfl) | (simp [*, eWn, eWs] <;> rfl), by repeat (first | (with_reducible first | exact HB.out | apply blA | apply pbN | apply bl1 | refine blS ?_ GE101.out | refine blS ?_ GE102.out) | exact HB.out)⟩
        · rw [if_neg c6] at H
          have c6b0 : (a0_3.toList == a1_3.toList) = false := beq_eq_false_iff_ne.mpr c6
          have c6b1 : (a0_3.toList != a1_3.toList) = true := bne_iff_ne.mpr c6
          obtain rfl := Option.some.inj H
          go_enter Try.func13, Try.ntmps13
          go_wp2_with (first | ((with_reducible refine gtD (N := 2) rfl ?_); refine box_event ?hg (N := 2) ?hd (cs := #[.int .i64 a0_0, .int .i64 a0_1, .int .i64 a0_2, .string a0_3, .slice A0_4 l0_4.length c0_4]) (t := 29) ?hr ?_; (case hd => rfl); (case hg => rfl); (case hr => first | (go_simp; done) | (go_simp; rfl)); intro gb101 hg w21 hbox hb; have n0_ := Zs0.mk (blT (by repeat (first | (with_reducible first | exact HB.out | apply blA | apply pbN | apply bl1) | exact HB.out)) hb); have n1_ := Zs0.mk (hbox); have n2_ := Zs0.mk ((by rw [hg]; exact (blZ (by repeat (first | (with_reducible first | exact HB.out | apply blA | apply pbN | apply bl1) | exact HB.out))) : w.heap.size ≤ gb101)); have n3_ := Zs0.mk ((by rw [hg]; exact (blZ (by repeat (first | (with_reducible first | exact HB.out | apply blA | apply pbN | apply bl1) | exact HB.out))) : w.heap.size ≤ gb101)); clear HB; have HB := n0_; have BK101 := n1_; have GW101 := n2_; have GE101 := n3_; clear n0_ n1_ n2_ n3_; clear hb hbox hg) | ((with_reducible refine gtD (N := 3) rfl ?_); refine box_event ?hg (N := 3) ?hd (cs := #[.int .i64 a1_0, .int .i64 a1_1, .int .i64 a1_2, .string a1_3, .slice A1_4 l1_4.length c1_4]) (t := 29) ?hr ?_; (case hd => rfl); (case hg => rfl); (case hr => first | (go_simp; done) | (go_simp; rfl)); intro gb102 hg w22 hbox hb; have n0_ := Zs0.mk (blk_below (g := gb101) (o := .cells #[.int .i64 a0_0, .int .i64 a0_1, .int .i64 a0_2, .string a0_3, .slice A0_4 l0_4.length c0_4] 29 (0, 0)) (by (with_reducible repeat (first | refine bkN ?_ _ | refine bk1 ?_ | refine bkA ?_ _)); exact BK101.out) hb); have n1_ := Zs0.mk (blT (by repeat (first | (with_reducible first | exact HB.out | apply blA | apply pbN | apply bl1 | refine blS ?_ GE101.out) | exact HB.out)) hb); have n2_ := Zs0.mk (hbox); have n3_ := Zs0.mk ((by rw [hg]; exact (blZ (by repeat (first | (with_reducible first | exact HB.out | apply blA | apply pbN | apply bl1 | refine blS ?_ GE101.out) | exact HB.out))) : w.heap.size ≤ gb102)); have n4_ := Zs0.mk ((by rw [hg]; exact (blZ (by repeat (first | (with_reducible first | exact HB.out | apply blA | apply pbN | apply bl1 | refine blS ?_ GE101.out) | exact HB.out))) : w.heap.size ≤ gb102)); have n5_ := Zs0.mk ((by rw [hg]; exact Nat.ne_of_lt (blk_lt (g := gb101) (o := .cells #[.int .i64 a0_0, .int .i64 a0_1, .int .i64 a0_2, .string a0_3, .slice A0_4 l0_4.length c0_4] 29 (0, 0)) (by (with_reducible repeat (first | refine bkN ?_ _ | refine bk1 ?_ | refine bkA ?_ _)); exact BK101.out)) : gb101 ≠ gb102)); have n6_ := Zs0.mk ((by rw [hg]; exact Nat.ne_of_gt (blk_lt (g := gb101) (o := .cells #[.int .i64 a0_0, .int .i64 a0_1, .int .i64 a0_2, .string a0_3, .slice A0_4 l0_4.length c0_4] 29 (0, 0)) (by (with_reducible repeat (first | refine bkN ?_ _ | refine bk1 ?_ | refine bkA ?_ _)); exact BK101.out)) : gb102 ≠ gb101)); clear BK101; clear HB; have BK101 := n0_; have HB := n1_; have BK102 := n2_; have GW102 := n3_; have GE102 := n4_; have NB101_102 := n5_; have NB102_101 := n6_; clear n0_ n1_ n2_ n3_ n4_ n5_ n6_; clear hb hbox hg; have hnb23 := NB101_102.out; have hnc23 := NB102_101.out; obtain ⟨hcz24_0, hcz24_1, hcz24_2, hcz24_3, hcz24_4, hfz24_0, hfz24_1, hfz24_2, hfz24_3, hfz24_4⟩ := bx5 BK101.out; obtain ⟨hcz25_0, hcz25_1, hcz25_2, hcz25_3, hcz25_4, hfz25_0, hfz25_1, hfz25_2, hfz25_3, hfz25_4⟩ := bx5 BK102.out))
          go_ret
          exact ⟨by first | rfl | (simp [eWn, eWs] <;> rfl) | (simp [*, eWn, eWs] <;> rfl), by repeat (first | (with_reducible first | exact HB.out | apply blA | apply pbN | apply bl1 | refine blS ?_ GE101.out | refine blS ?_ GE102.out) | exact HB.out)⟩
      · rw [if_neg c5] at H
        have c5b0 : (a0_2 == a1_2) = false := beq_eq_false_iff_ne.mpr c5
        have c5b1 : (a0_2 != a1_2) = true := bne_iff_ne.mpr c5
        obtain rfl := Option.some.inj H
        go_enter Try.func13, Try.ntmps13
        go_wp2_with (first | ((with_reducible refine gtD (N := 2) rfl ?_); refine box_event ?hg (N := 2) ?hd (cs := #[.int .i64 a0_0, .int .i64 a0_1, .int .i64 a0_2, .string a0_3, .slice A0_4 l0_4.length c0_4]) (t := 29) ?hr ?_; (case hd => rfl); (case hg => rfl); (case hr => first | (go_simp; done) | (go_simp; rfl)); intro gb101 hg w26 hbox hb; have n0_ := Zs0.mk (blT (by repeat (first | (with_reducible first | exact HB.out | apply blA | apply pbN | apply bl1) | exact HB.out)) hb); have n1_ := Zs0.mk (hbox); have n2_ := Zs0.mk ((by rw [hg]; exact (blZ (by repeat (first | (with_reducible first | exact HB.out | apply blA | apply pbN | apply bl1) | exact HB.out))) : w.heap.size ≤ gb101)); have n3_ := Zs0.mk ((by rw [hg]; exact (blZ (by repeat (first | (with_reducible first | exact HB.out | apply blA | apply pbN | apply bl1) | exact HB.out))) : w.heap.size ≤ gb101)); clear HB; have HB := n0_; have BK101 := n1_; have GW101 := n2_; have GE101 := n3_; clear n0_ n1_ n2_ n3_; clear hb hbox hg) | ((with_reducible refine gtD (N := 3) rfl ?_); refine box_event ?hg (N := 3) ?hd (cs := #[.int .i64 a1_0, .int .i64 a1_1, .int .i64 a1_2, .string a1_3, .slice A1_4 l1_4.length c1_4]) (t := 29) ?hr ?_; (case hd => rfl); (case hg => rfl); (case hr => first | (go_simp; done) | (go_simp; rfl)); intro gb102 hg w27 hbox hb; have n0_ := Zs0.mk (blk_below (g := gb101) (o := .cells #[.int .i64 a0_0, .int .i64 a0_1, .int .i64 a0_2, .string a0_3, .slice A0_4 l0_4.length c0_4] 29 (0, 0)) (by (with_reducible repeat (first | refine bkN ?_ _ | refine bk1 ?_ | refine bkA ?_ _)); exact BK101.out) hb); have n1_ := Zs0.mk (blT (by repeat (first | (with_reducible first | exact HB.out | apply blA | apply pbN | apply bl1 | refine blS ?_ GE101.out) | exact HB.out)) hb); have n2_ := Zs0.mk (hbox); have n3_ := Zs0.mk ((by rw [hg]; exact (blZ (by repeat (first | (with_reducible first | exact HB.out | apply blA | apply pbN | apply bl1 | refine blS ?_ GE101.out) | exact HB.out))) : w.heap.size ≤ gb102)); have n4_ := Zs0.mk ((by rw [hg]; exact (blZ (by repeat (first | (with_reducible first | exact HB.out | apply blA | apply pbN | apply bl1 | refine blS ?_ GE101.out) | exact HB.out))) : w.heap.size ≤ gb102)); have n5_ := Zs0.mk ((by rw [hg]; exact Nat.ne_of_lt (blk_lt (g := gb101) (o := .cells #[.int .i64 a0_0, .int .i64 a0_1, .int .i64 a0_2, .string a0_3, .slice A0_4 l0_4.length c0_4] 29 (0, 0)) (by (with_reducible repeat (first | refine bkN ?_ _ | refine bk1 ?_ | refine bkA ?_ _)); exact BK101.out)) : gb101 ≠ gb102)); have n6_ := Zs0.mk ((by rw [hg]; exact Nat.ne_of_gt (blk_lt (g := gb101) (o := .cells #[.int .i64 a0_0, .int .i64 a0_1, .int .i64 a0_2, .string a0_3, .slice A0_4 l0_4.length c0_4] 29 (0, 0)) (by (with_reducible repeat (first | refine bkN ?_ _ | refine bk1 ?_ | refine bkA ?_ _)); exact BK101.out)) : gb102 ≠ gb101)); clear BK101; clear HB; have BK101 := n0_; have HB := n1_; have BK102 := n2_; have GW102 := n3_; have GE102 := n4_; have NB101_102 := n5_; have NB102_101 := n6_; clear n0_ n1_ n2_ n3_ n4_ n5_ n6_; clear hb hbox hg; have hnb28 := NB101_102.out; have hnc28 := NB102_101.out; obtain ⟨hcz29_0, hcz29_1, hcz29_2, hcz29_3, hcz29_4, hfz29_0, hfz29_1, hfz29_2, hfz29_3, hfz29_4⟩ := bx5 BK101.out; obtain ⟨hcz30_0, hcz30_1, hcz30_2, hcz30_3, hcz30_4, hfz30_0, hfz30_1, hfz30_2, hfz30_3, hfz30_4⟩ := bx5 BK102.out))
        go_ret
        exact ⟨by first | rfl | (simp [eWn, eWs] <;> rfl) | (simp [*, eWn, eWs] <;> rfl), by repeat (first | (with_reducible first | exact HB.out | apply blA | apply pbN | apply bl1 | refine blS ?_ GE101.out | refine blS ?_ GE102.out) | exact HB.out)⟩
    · rw [if_neg c4] at H
      have c4b0 : (a0_1 == a1_1) = false := beq_eq_false_iff_ne.mpr c4
      have c4b1 : (a0_1 != a1_1) = true := bne_iff_ne.mpr c4
      obtain rfl := Option.some.inj H
      go_enter Try.func13, Try.ntmps13
      go_wp2_with (first | ((with_reducible refine gtD (N := 2) rfl ?_); refine box_event ?hg (N := 2) ?hd (cs := #[.int .i64 a0_0, .int .i64 a0_1, .int .i64 a0_2, .string a0_3, .slice A0_4 l0_4.length c0_4]) (t := 29) ?hr ?_; (case hd => rfl); (case hg => rfl); (case hr => first | (go_simp; done) | (go_simp; rfl)); intro gb101 hg w31 hbox hb; have n0_ := Zs0.mk (blT (by repeat (first | (with_reducible first | exact HB.out | apply blA | apply pbN | apply bl1) | exact HB.out)) hb); have n1_ := Zs0.mk (hbox); have n2_ := Zs0.mk ((by rw [hg]; exact (blZ (by repeat (first | (with_reducible first | exact HB.out | apply blA | apply pbN | apply bl1) | exact HB.out))) : w.heap.size ≤ gb101)); have n3_ := Zs0.mk ((by rw [hg]; exact (blZ (by repeat (first | (with_reducible first | exact HB.out | apply blA | apply pbN | apply bl1) | exact HB.out))) : w.heap.size ≤ gb101)); clear HB; have HB := n0_; have BK101 := n1_; have GW101 := n2_; have GE101 := n3_; clear n0_ n1_ n2_ n3_; clear hb hbox hg) | ((with_reducible refine gtD (N := 3) rfl ?_); refine box_event ?hg (N := 3) ?hd (cs := #[.int .i64 a1_0, .int .i64 a1_1, .int .i64 a1_2, .string a1_3, .slice A1_4 l1_4.length c1_4]) (t := 29) ?hr ?_; (case hd => rfl); (case hg => rfl); (case hr => first | (go_simp; done) | (go_simp; rfl)); intro gb102 hg w32 hbox hb; have n0_ := Zs0.mk (blk_below (g := gb101) (o := .cells #[.int .i64 a0_0, .int .i64 a0_1, .int .i64 a0_2, .string a0_3, .slice A0_4 l0_4.length c0_4] 29 (0, 0)) (by (with_reducible repeat (first | refine bkN ?_ _ | refine bk1 ?_ | refine bkA ?_ _)); exact BK101.out) hb); have n1_ := Zs0.mk (blT (by repeat (first | (with_reducible first | exact HB.out | apply blA | apply pbN | apply bl1 | refine blS ?_ GE101.out) | exact HB.out)) hb); have n2_ := Zs0.mk (hbox); have n3_ := Zs0.mk ((by rw [hg]; exact (blZ (by repeat (first | (with_reducible first | exact HB.out | apply blA | apply pbN | apply bl1 | refine blS ?_ GE101.out) | exact HB.out))) : w.heap.size ≤ gb102)); have n4_ := Zs0.mk ((by rw [hg]; exact (blZ (by repeat (first | (with_reducible first | exact HB.out | apply blA | apply pbN | apply bl1 | refine blS ?_ GE101.out) | exact HB.out))) : w.heap.size ≤ gb102)); have n5_ := Zs0.mk ((by rw [hg]; exact Nat.ne_of_lt (blk_lt (g := gb101) (o := .cells #[.int .i64 a0_0, .int .i64 a0_1, .int .i64 a0_2, .string a0_3, .slice A0_4 l0_4.length c0_4] 29 (0, 0)) (by (with_reducible repeat (first | refine bkN ?_ _ | refine bk1 ?_ | refine bkA ?_ _)); exact BK101.out)) : gb101 ≠ gb102)); have n6_ := Zs0.mk ((by rw [hg]; exact Nat.ne_of_gt (blk_lt (g := gb101) (o := .cells #[.int .i64 a0_0, .int .i64 a0_1, .int .i64 a0_2, .string a0_3, .slice A0_4 l0_4.length c0_4] 29 (0, 0)) (by (with_reducible repeat (first | refine bkN ?_ _ | refine bk1 ?_ | refine bkA ?_ _)); exact BK101.out)) : gb102 ≠ gb101)); clear BK101; clear HB; have BK101 := n0_; have HB := n1_; have BK102 := n2_; have GW102 := n3_; have GE102 := n4_; have NB101_102 := n5_; have NB102_101 := n6_; clear n0_ n1_ n2_ n3_ n4_ n5_ n6_; clear hb hbox hg; have hnb33 := NB101_102.out; have hnc33 := NB102_101.out; obtain ⟨hcz34_0, hcz34_1, hcz34_2, hcz34_3, hcz34_4, hfz34_0, hfz34_1, hfz34_2, hfz34_3, hfz34_4⟩ := bx5 BK101.out; obtain ⟨hcz35_0, hcz35_1, hcz35_2, hcz35_3, hcz35_4, hfz35_0, hfz35_1, hfz35_2, hfz35_3, hfz35_4⟩ := bx5 BK102.out))
      go_ret
      exact ⟨by first | rfl | (simp [eWn, eWs] <;> rfl) | (simp [*, eWn, eWs] <;> rfl), by repeat (first | (with_reducible first | exact HB.out | apply blA | apply pbN | apply bl1 | refine blS ?_ GE101.out | refine blS ?_ GE102.out) | exact HB.out)⟩
  · rw [if_neg c3] at H
    have c3b0 : (a0_0 == a1_0) = false := beq_eq_false_iff_ne.mpr c3
    have c3b1 : (a0_0 != a1_0) = true := bne_iff_ne.mpr c3
    obtain rfl := Option.some.inj H
    go_enter Try.func13, Try.ntmps13
    go_wp2_with (first | ((with_reducible refine gtD (N := 2) rfl ?_); refine box_event ?hg (N := 2) ?hd (cs := #[.int .i64 a0_0, .int .i64 a0_1, .int .i64 a0_2, .string a0_3, .slice A0_4 l0_4.length c0_4]) (t := 29) ?hr ?_; (case hd => rfl); (case hg => rfl); (case hr => first | (go_simp; done) | (go_simp; rfl)); intro gb101 hg w36 hbox hb; have n0_ := Zs0.mk (blT (by repeat (first | (with_reducible first | exact HB.out | apply blA | apply pbN | apply bl1) | exact HB.out)) hb); have n1_ := Zs0.mk (hbox); have n2_ := Zs0.mk ((by rw [hg]; exact (blZ (by repeat (first | (with_reducible first | exact HB.out | apply blA | apply pbN | apply bl1) | exact HB.out))) : w.heap.size ≤ gb101)); have n3_ := Zs0.mk ((by rw [hg]; exact (blZ (by repeat (first | (with_reducible first | exact HB.out | apply blA | apply pbN | apply bl1) | exact HB.out))) : w.heap.size ≤ gb101)); clear HB; have HB := n0_; have BK101 := n1_; have GW101 := n2_; have GE101 := n3_; clear n0_ n1_ n2_ n3_; clear hb hbox hg) | ((with_reducible refine gtD (N := 3) rfl ?_); refine box_event ?hg (N := 3) ?hd (cs := #[.int .i64 a1_0, .int .i64 a1_1, .int .i64 a1_2, .string a1_3, .slice A1_4 l1_4.length c1_4]) (t := 29) ?hr ?_; (case hd => rfl); (case hg => rfl); (case hr => first | (go_simp; done) | (go_simp; rfl)); intro gb102 hg w37 hbox hb; have n0_ := Zs0.mk (blk_below (g := gb101) (o := .cells #[.int .i64 a0_0, .int .i64 a0_1, .int .i64 a0_2, .string a0_3, .slice A0_4 l0_4.length c0_4] 29 (0, 0)) (by (with_reducible repeat (first | refine bkN ?_ _ | refine bk1 ?_ | refine bkA ?_ _)); exact BK101.out) hb); have n1_ := Zs0.mk (blT (by repeat (first | (with_reducible first | exact HB.out | apply blA | apply pbN | apply bl1 | refine blS ?_ GE101.out) | exact HB.out)) hb); have n2_ := Zs0.mk (hbox); have n3_ := Zs0.mk ((by rw [hg]; exact (blZ (by repeat (first | (with_reducible first | exact HB.out | apply blA | apply pbN | apply bl1 | refine blS ?_ GE101.out) | exact HB.out))) : w.heap.size ≤ gb102)); have n4_ := Zs0.mk ((by rw [hg]; exact (blZ (by repeat (first | (with_reducible first | exact HB.out | apply blA | apply pbN | apply bl1 | refine blS ?_ GE101.out) | exact HB.out))) : w.heap.size ≤ gb102)); have n5_ := Zs0.mk ((by rw [hg]; exact Nat.ne_of_lt (blk_lt (g := gb101) (o := .cells #[.int .i64 a0_0, .int .i64 a0_1, .int .i64 a0_2, .string a0_3, .slice A0_4 l0_4.length c0_4] 29 (0, 0)) (by (with_reducible repeat (first | refine bkN ?_ _ | refine bk1 ?_ | refine bkA ?_ _)); exact BK101.out)) : gb101 ≠ gb102)); have n6_ := Zs0.mk ((by rw [hg]; exact Nat.ne_of_gt (blk_lt (g := gb101) (o := .cells #[.int .i64 a0_0, .int .i64 a0_1, .int .i64 a0_2, .string a0_3, .slice A0_4 l0_4.length c0_4] 29 (0, 0)) (by (with_reducible repeat (first | refine bkN ?_ _ | refine bk1 ?_ | refine bkA ?_ _)); exact BK101.out)) : gb102 ≠ gb101)); clear BK101; clear HB; have BK101 := n0_; have HB := n1_; have BK102 := n2_; have GW102 := n3_; have GE102 := n4_; have NB101_102 := n5_; have NB102_101 := n6_; clear n0_ n1_ n2_ n3_ n4_ n5_ n6_; clear hb hbox hg; have hnb38 := NB101_102.out; have hnc38 := NB102_101.out; obtain ⟨hcz39_0, hcz39_1, hcz39_2, hcz39_3, hcz39_4, hfz39_0, hfz39_1, hfz39_2, hfz39_3, hfz39_4⟩ := bx5 BK101.out; obtain ⟨hcz40_0, hcz40_1, hcz40_2, hcz40_3, hcz40_4, hfz40_0, hfz40_1, hfz40_2, hfz40_3, hfz40_4⟩ := bx5 BK102.out))
    go_ret
    exact ⟨by first | rfl | (simp [eWn, eWs] <;> rfl) | (simp [*, eWn, eWs] <;> rfl), by repeat (first | (with_reducible first | exact HB.out | apply blA | apply pbN | apply bl1 | refine blS ?_ GE101.out | refine blS ?_ GE102.out) | exact HB.out)⟩

end Go.Proofs.Ytjcggilkfofiaaa.P
namespace Go.Proofs.Ytjcggilkfofiaaa.P
open Go.RowKit Go.Proofs.YtjcggilkfofiaaaW.PrintWords Go.Proofs.YtjcggilkfofiaaaW.PrintLast Go.Proofs.YtjcggilkfofiaaaW.PrintMore
attribute [local go_sem] max2_int min2_int max_two min_two max_three min_three max_four min_four   -- for this text's walks alone
set_option linter.unusedVariables false
set_option linter.unusedSimpArgs false

/-! ### O_eqExpS: function 36 -/
def O_eqExpS.l0 (GeqExp : Int → Int → Int → ByteArray → List (S29) → Int → Int → Int → ByteArray → List (S29) → Option (Bool)) : Nat → List (S29) → List (S29) → Int → Option (Bool)
  | 0, _, _, _ => none
  | k + 1, x0, x1, x5 => if x5 < (x0.length : Int) then (if 0 ≤ x5 then (if x5 < (x1.length : Int) then ((GeqExp ((rd_T29 x0 x5).f0) ((rd_T29 x0 x5).f1) ((rd_T29 x0 x5).f2) ((rd_T29 x0 x5).f3) ((rd_T29 x0 x5).f4) ((rd_T29 x1 x5).f0) ((rd_T29 x1 x5).f1) ((rd_T29 x1 x5).f2) ((rd_T29 x1 x5).f3) ((rd_T29 x1 x5).f4)).bind fun t103 => (if t103 = true then (O_eqExpS.l0 GeqExp k x0 x1 (wrap64 (x5 + 1))) else (some false))) else (none)) else (none)) else (some true)
def O_eqExpS.f (GeqExp : Int → Int → Int → ByteArray → List (S29) → Int → Int → Int → ByteArray → List (S29) → Option (Bool)) (k : Nat) (l0 : List (S29)) (l1 : List (S29)) : Option (Bool) := if (l0.length : Int) = (l1.length : Int) then (O_eqExpS.l0 GeqExp k l0 l1 0) else (some false)
theorem O_eqExpS.mono_l (GeqExp : Int → Int → Int → ByteArray → List (S29) → Int → Int → Int → ByteArray → List (S29) → Option (Bool)) : ∀ k, (∀ y0 y1 y2, LeO (O_eqExpS.l0 GeqExp k y0 y1 y2) (O_eqExpS.l0 GeqExp (k + 1) y0 y1 y2))
  | 0 => fun _ _ _ r h => by simp [O_eqExpS.l0] at h
  | k + 1 => by
    have ih0 := O_eqExpS.mono_l GeqExp k
    · intro y0 y1 y2
      unfold O_eqExpS.l0
      repeat' first
      | (with_reducible exact ih0 _ _ _)
      | (with_reducible exact LeO.refl _)
      | (with_reducible exact LeO.none _)
      | (with_reducible refine LeO.ite ?_ ?_)
      | (with_reducible refine LeO.bind ?_ (fun _ => ?_))
      | exact ih0 _ _ _
      | exact LeO.none _
      | refine LeO.ite ?_ ?_
      | refine LeO.bind ?_ (fun _ => ?_)
theorem O_eqExpS.mono (GeqExp : Int → Int → Int → ByteArray → List (S29) → Int → Int → Int → ByteArray → List (S29) → Option (Bool)) : ∀ a0 a1 k, LeO (O_eqExpS.f GeqExp k a0 a1) (O_eqExpS.f GeqExp (k + 1) a0 a1) := by
  intro a0 a1 k
  have ih0 := O_eqExpS.mono_l GeqExp k
  unfold O_eqExpS.f
  repeat' first
      | (with_reducible exact ih0 _ _ _)
      | (with_reducible exact LeO.refl _)
      | (with_reducible exact LeO.none _)
      | (with_reducible refine LeO.ite ?_ ?_)
      | (with_reducible refine LeO.bind ?_ (fun _ => ?_))
      | exact ih0 _ _ _
      | exact LeO.none _
      | refine LeO.ite ?_ ?_
      | refine LeO.bind ?_ (fun _ => ?_)
def O_eqExpS.T6 : Bool × List (List Nat × List Nat) := (true, [([], []), ([], []), ([0, 1], [0, 1]), ([2], [2]), ([], []), ([], []), ([4, 5], [4, 5]), ([6], [6]), ([3, 7], [3, 7]), ([8], [8])])
def O_eqExpS.B6 : List Nat := [0, 0, 3, 7, 0, 0, 48, 112, 255, 511]
theorem O_eqExpS.tab6 : rtab .any (opsOf Try.f36 6) = O_eqExpS.T6 := by kernel_rfl
theorem O_eqExpS.bits6 : waitsOk O_eqExpS.T6.2 O_eqExpS.B6 = true := by kernel_rfl
set_option maxHeartbeats 8000000 in
set_option maxRecDepth 100000 in
theorem O_eqExpS.calls (GeqExp : Int → Int → Int → ByteArray → List (S29) → Int → Int → Int → ByteArray → List (S29) → Option (Bool)) (HeqExp : Zs0 (∀ (a0_0 : Int) (a0_1 : Int) (a0_2 : Int) (a0_3 : ByteArray) (A0_4 : Option Addr) (c0_4 : Nat) (l0_4 : List (S29)) (a1_0 : Int) (a1_1 : Int) (a1_2 : Int) (a1_3 : ByteArray) (A1_4 : Option Addr) (c1_4 : Nat) (l1_4 : List (S29)) (r : Bool) (w : World) (hr0_4 : Kd.C k29 w A0_4 l0_4.length l0_4) (hc0_4 : l0_4.length ≤ c0_4) (hr1_4 : Kd.C k29 w A1_4 l1_4.length l1_4) (hc1_4 : l1_4.length ≤ c1_4) (h : GeqExp a0_0 a0_1 a0_2 a0_3 l0_4 a1_0 a1_1 a1_2 a1_3 l1_4 = some r), Calls Try.prog 13 #[.agg #[.int .i64 a0_0, .int .i64 a0_1, .int .i64 a0_2, .string a0_3, .slice A0_4 l0_4.length c0_4], .agg #[.int .i64 a1_0, .int .i64 a1_1, .int .i64 a1_2, .string a1_3, .slice A1_4 l1_4.length c1_4]] w fun e w' => e = .returned (.bool r) ∧ Below w.heap.size w w')) (k : Nat) (A0 : Option Addr) (c0 : Nat) (l0 : List (S29)) (A1 : Option Addr) (c1 : Nat) (l1 : List (S29)) (r : Bool) (w : World) (hr0 : Kd.C k29 w A0 l0.length l0) (hc0 : l0.length ≤ c0) (hr1 : Kd.C k29 w A1 l1.length l1) (hc1 : l1.length ≤ c1) (h : O_eqExpS.f GeqExp k l0 l1 = some r) :
    Calls Try.prog 36 #[.slice A0 l0.length c0, .slice A1 l1.length c1] w fun e w' => e = .returned (.bool r) ∧ Below w.heap.size w w' := by
  have hu29 := Try.underlying29
  have HR0 := Zs0.mk hr0
  have HC0 := Zs0.mk hc0
  clear hr0 hc0
  have HR1 := Zs0.mk hr1
  have HC1 := Zs0.mk hc1
  clear hr1 hc1
  have HB := Zs0.mk (Below.refl w.heap.size w)
  have H : (if (l0.length : Int) = (l1.length : Int) then (O_eqExpS.l0 GeqExp k l0 l1 0) else (some false)) = some r := h
  clear h
  by_cases c3 : (l0.length : Int) = (l1.length : Int)
  · rw [if_pos c3] at H
    have c3b0 : ((l0.length : Int) == (l1.length : Int)) = true := beq_iff_eq.mpr c3
    have c3b1 : ((l0.length : Int) != (l1.length : Int)) = false := bne_eq_false_iff_eq.mpr c3
    have c3b2 : (l0.length == l1.length) = true := by first | simpa using c3 | (simp at c3 ⊢; omega)
    clear c3
    have H' := Zs0.mk H
    clear H
    go_enter Try.func36, Try.ntmps36
    go_wp2
    go_loopg [5] k (fun kq v5 w' => ∃ (x5_1 : Int), v5 = .int .i64 x5_1 ∧ Zs0 (O_eqExpS.l0 GeqExp kq l0 l1 x5_1 = some r) ∧ Zs0 (kq ≤ k) ∧ Zs0 (Below w.heap.size w w'))
    case atStart => exact ⟨(0), (by first | rfl | (simp; done) | (simp [*]; done)), H', ⟨Nat.le_refl _⟩, ⟨by repeat (first | (with_reducible first | exact HB.out | apply blA | apply pbN | apply bl1) | exact HB.out)⟩⟩
    case round =>
      clear H'
      try clear c1
      try clear p2
      try clear c3
      try clear c3b0
      try clear c3b1
      try clear c3b2
      obtain ⟨x5_1, rfl, HA, HK1, HB⟩ := hrel
      cases gk with
      | zero => exact absurd HA.out (by simp [O_eqExpS.l0])
      | succ k1 =>
        have H := HA.out
        clear HA
        simp only [O_eqExpS.l0] at H
        by_cases c4 : x5_1 < (l0.length : Int)
        · rw [if_pos c4] at H
          have c4b0 : decide (x5_1 < (l0.length : Int)) = true := decide_eq_true c4
          clear c4
          by_cases c5 : 0 ≤ x5_1
          · rw [if_pos c5] at H
            have c5b0 : decide (0 ≤ x5_1) = true := decide_eq_true c5
            clear c5
            by_cases c6 : x5_1 < (l1.length : Int)
            · rw [if_pos c6] at H
              have c6b0 : decide (x5_1 < (l1.length : Int)) = true := decide_eq_true c6
              clear c6
              replace H := Option.bind_eq_some_iff.mp H
              obtain ⟨t103, A70, H⟩ := H
              replace H : (if t103 = true then (O_eqExpS.l0 GeqExp k1 l0 l1 (wrap64 (x5_1 + 1))) else (some false)) = some r := H
              have A7 := Zs0.mk A70
              clear A70
              by_cases c8 : t103 = true
              · subst c8
                have H1 : (O_eqExpS.l0 GeqExp k1 l0 l1 (wrap64 (x5_1 + 1))) = some r := by rw [if_pos rfl] at H; exact H
                clear H
                have H := H1
                clear H1
                have H' := Zs0.mk H
                clear H
                try go_wp2
                have n0_ := Zs0.mk (bl1 HB.out)
                clear HB
                have HB := n0_
                clear n0_
                have p101 : 0 ≤ (x5_1 : Int) := of_decide_eq_true (by first | (with_reducible assumption) | assumption)
                have q101 : x5_1 < (l0.length : Int) := of_decide_eq_true (by first | (with_reducible assumption) | assumption)
                obtain ⟨ad101, A101_4, c101_4, e101, hx101_0, hx101_1, hx101_2, hx101_3, hx101_4, hl101_4, hi101_4⟩ := at_T29 HR0.out x5_1 p101 q101
                have hw101_4 := hx101_4
                have hw101_3 := hx101_3
                have hw101_2 := hx101_2
                have hw101_1 := hx101_1
                have hw101_0 := hx101_0
                cases e101
                replace hx101_0 := (HB.out.cell (World.block_lt_of_cell? w _ hx101_0)).trans hx101_0
                replace hx101_1 := (HB.out.cell (World.block_lt_of_cell? w _ hx101_1)).trans hx101_1
                replace hx101_2 := (HB.out.cell (World.block_lt_of_cell? w _ hx101_2)).trans hx101_2
                replace hx101_3 := (HB.out.cell (World.block_lt_of_cell? w _ hx101_3)).trans hx101_3
                replace hx101_4 := (HB.out.cell (World.block_lt_of_cell? w _ hx101_4)).trans hx101_4
                have HR101_4 := Zs0.mk hi101_4
                have HC101_4 := Zs0.mk hl101_4
                clear hi101_4 hl101_4
                replace p101 := eq_true p101
                replace q101 := eq_true q101
                have p102 : 0 ≤ (x5_1 : Int) := of_decide_eq_true (by first | (with_reducible assumption) | assumption)
                have q102 : x5_1 < (l1.length : Int) := of_decide_eq_true (by first | (with_reducible assumption) | assumption)
                obtain ⟨ad102, A102_4, c102_4, e102, hx102_0, hx102_1, hx102_2, hx102_3, hx102_4, hl102_4, hi102_4⟩ := at_T29 HR1.out x5_1 p102 q102
                have hw102_4 := hx102_4
                have hw102_3 := hx102_3
                have hw102_2 := hx102_2
                have hw102_1 := hx102_1
                have hw102_0 := hx102_0
                cases e102
                replace hx102_0 := (HB.out.cell (World.block_lt_of_cell? w _ hx102_0)).trans hx102_0
                replace hx102_1 := (HB.out.cell (World.block_lt_of_cell? w _ hx102_1)).trans hx102_1
                replace hx102_2 := (HB.out.cell (World.block_lt_of_cell? w _ hx102_2)).trans hx102_2
                replace hx102_3 := (HB.out.cell (World.block_lt_of_cell? w _ hx102_3)).trans hx102_3
                replace hx102_4 := (HB.out.cell (World.block_lt_of_cell? w _ hx102_4)).trans hx102_4
                have HR102_4 := Zs0.mk hi102_4
                have HC102_4 := Zs0.mk hl102_4
                clear hi102_4 hl102_4
                replace p102 := eq_true p102
                replace q102 := eq_true q102
                refine start_ (n := 10) (S := fun w' => w'.cell? (ad101.add ((x5_1).toNat * 5)) = some (.int .i64 ((rd_T29 l0 x5_1).f0)) ∧ w'.cell? ⟨(ad101.add ((x5_1).toNat * 5)).block, (ad101.add ((x5_1).toNat * 5)).off + 1, none⟩ = some (.int .i64 ((rd_T29 l0 x5_1).f1)) ∧ w'.cell? ⟨(ad101.add ((x5_1).toNat * 5)).block, (ad101.add ((x5_1).toNat * 5)).off + 2, none⟩ = some (.int .i64 ((rd_T29 l0 x5_1).f2)) ∧ w'.cell? ⟨(ad101.add ((x5_1).toNat * 5)).block, (ad101.add ((x5_1).toNat * 5)).off + 3, none⟩ = some (.string ((rd_T29 l0 x5_1).f3)) ∧ w'.cell? ⟨(ad101.add ((x5_1).toNat * 5)).block, (ad101.add ((x5_1).toNat * 5)).off + 4, none⟩ = some (.slice A101_4 ((rd_T29 l0 x5_1).f4).length c101_4) ∧ w'.cell? (ad102.add ((x5_1).toNat * 5)) = some (.int .i64 ((rd_T29 l1 x5_1).f0)) ∧ w'.cell? ⟨(ad102.add ((x5_1).toNat * 5)).block, (ad102.add ((x5_1).toNat * 5)).off + 1, none⟩ = some (.int .i64 ((rd_T29 l1 x5_1).f1)) ∧ w'.cell? ⟨(ad102.add ((x5_1).toNat * 5)).block, (ad102.add ((x5_1).toNat * 5)).off + 2, none⟩ = some (.int .i64 ((rd_T29 l1 x5_1).f2)) ∧ w'.cell? ⟨(ad102.add ((x5_1).toNat * 5)).block, (ad102.add ((x5_1).toNat * 5)).off + 3, none⟩ = some (.string ((rd_T29 l1 x5_1).f3)) ∧ w'.cell? ⟨(ad102.add ((x5_1).toNat * 5)).block, (ad102.add ((x5_1).toNat * 5)).off + 4, none⟩ = some (.slice A102_4 ((rd_T29 l1 x5_1).f4).length c102_4)) (ds := []) #[false, false, false, false, false, false, false, false, false, false] (by kernel_rfl) rfl rfl ⟨((HB.out.cell (World.block_lt_of_cell? w _ hw101_0)).trans hw101_0), ((HB.out.cell (World.block_lt_of_cell? w _ hw101_1)).trans hw101_1), ((HB.out.cell (World.block_lt_of_cell? w _ hw101_2)).trans hw101_2), ((HB.out.cell (World.block_lt_of_cell? w _ hw101_3)).trans hw101_3), ((HB.out.cell (World.block_lt_of_cell? w _ hw101_4)).trans hw101_4), ((HB.out.cell (World.block_lt_of_cell? w _ hw102_0)).trans hw102_0), ((HB.out.cell (World.block_lt_of_cell? w _ hw102_1)).trans hw102_1), ((HB.out.cell (World.block_lt_of_cell? w _ hw102_2)).trans hw102_2), ((HB.out.cell (World.block_lt_of_cell? w _ hw102_3)).trans hw102_3), ((HB.out.cell (World.block_lt_of_cell? w _ hw102_4)).trans hw102_4)⟩ (fun hHeld => ?_); refine with_tabW O_eqExpS.tab6 O_eqExpS.bits6 (fun HT_ HW_ => ?_)
                generalize wr.drew = w9 at HB HR101_4 HR102_4 hx101_0 hx101_1 hx101_2 hx101_3 hx101_4 hx102_0 hx102_1 hx102_2 hx102_3 hx102_4 hHeld ⊢
                refine pure_ (i := 0) (N := some 17) (v := ?_) (a' := ?_) #[true, false, false, false, false, false, false, false, false, false] rfl rfl (any_of HT_.out (by kernel_rfl)) (fun _ _ _ h => h) (Or.inl ⟨by rfl, ?_⟩) ?_ ?_
                rotate_left
                · intro w'
                  go_simp
                  with_reducible rfl
                rotate_left
                · simp only [Act.put, List.setIfInBounds_toArray, List.set_cons_zero, List.set_cons_succ, i64_w, i32_w]
                  rfl
                refine pure_ (i := 1) (N := some 18) (v := ?_) (a' := ?_) #[true, true, false, false, false, false, false, false, false, false] rfl rfl (any_of HT_.out (by kernel_rfl)) (fun _ _ _ h => h) (Or.inl ⟨by rfl, ?_⟩) ?_ ?_
                rotate_left
                · intro w'
                  go_simp
                  with_reducible rfl
                rotate_left
                · simp only [Act.put, List.setIfInBounds_toArray, List.set_cons_zero, List.set_cons_succ, i64_w, i32_w]
                  rfl
                refine pure_ (i := 2) (N := some 19) (v := ?_) (a' := ?_) #[true, true, true, false, false, false, false, false, false, false] rfl rfl (any_of HT_.out (by kernel_rfl)) (fun _ _ _ h => h) (Or.inl ⟨by rfl, ?_⟩) ?_ ?_
                rotate_left
                · intro w'
                  go_simp
                  with_reducible rfl
                rotate_left
                · simp only [Act.put, List.setIfInBounds_toArray, List.set_cons_zero, List.set_cons_succ, i64_w, i32_w]
                  rfl
                refine pure_ (i := 4) (N := some 21) (v := ?_) (a' := ?_) #[true, true, true, false, true, false, false, false, false, false] rfl rfl (any_of HT_.out (by kernel_rfl)) (fun _ _ _ h => h) (Or.inl ⟨by rfl, ?_⟩) ?_ ?_
                rotate_left
                · intro w'
                  go_simp
                  with_reducible rfl
                rotate_left
                · simp only [Act.put, List.setIfInBounds_toArray, List.set_cons_zero, List.set_cons_succ, i64_w, i32_w]
                  rfl
                refine pure_ (i := 5) (N := some 22) (v := ?_) (a' := ?_) #[true, true, true, false, true, true, false, false, false, false] rfl rfl (any_of HT_.out (by kernel_rfl)) (fun _ _ _ h => h) (Or.inl ⟨by rfl, ?_⟩) ?_ ?_
                rotate_left
                · intro w'
                  go_simp
                  with_reducible rfl
                rotate_left
                · simp only [Act.put, List.setIfInBounds_toArray, List.set_cons_zero, List.set_cons_succ, i64_w, i32_w]
                  rfl
                refine pure_ (i := 6) (N := some 23) (v := ?_) (a' := ?_) #[true, true, true, false, true, true, true, false, false, false] rfl rfl (any_of HT_.out (by kernel_rfl)) (fun _ _ _ h => h) (Or.inl ⟨by rfl, ?_⟩) ?_ ?_
                rotate_left
                · intro w'
                  go_simp
                  with_reducible rfl
                rotate_left
                · simp only [Act.put, List.setIfInBounds_toArray, List.set_cons_zero, List.set_cons_succ, i64_w, i32_w]
                  rfl
                refine take_ (i := 3) (N := some 20) (v := ?_) (a' := ?_) #[true, true, true, true, true, true, true, false, false, false] rfl rfl (take_ofW HT_.out HW_.out (by kernel_rfl)) (fun _ _ _ h => h) (Or.inl ⟨by rfl, ?_⟩) hHeld ?_ ?_
                rotate_left
                · rintro w' ⟨s0, s1, s2, s3, s4, s5, s6, s7, s8, s9⟩
                  go_simp
                  with_reducible rfl
                rotate_left
                · simp only [Act.put, List.setIfInBounds_toArray, List.set_cons_zero, List.set_cons_succ, i64_w, i32_w]
                  rfl
                refine take_ (i := 7) (N := some 24) (v := ?_) (a' := ?_) #[true, true, true, true, true, true, true, true, false, false] rfl rfl (take_ofW HT_.out HW_.out (by kernel_rfl)) (fun _ _ _ h => h) (Or.inl ⟨by rfl, ?_⟩) hHeld ?_ ?_
                rotate_left
                · rintro w' ⟨s0, s1, s2, s3, s4, s5, s6, s7, s8, s9⟩
                  go_simp
                  with_reducible rfl
                rotate_left
                · simp only [Act.put, List.setIfInBounds_toArray, List.set_cons_zero, List.set_cons_succ, i64_w, i32_w]
                  rfl
                refine one_ (i := 8) (N := some 25) #[true, true, true, true, true, true, true, true, true, false] rfl rfl (one_of HT_.out (by kernel_rfl)) (by decide) (fun K hK => ?_)
                refine goes_ Try.func13 (by kernel_rfl) rfl #[.agg #[.int .i64 ((rd_T29 l0 x5_1).f0), .int .i64 ((rd_T29 l0 x5_1).f1), .int .i64 ((rd_T29 l0 x5_1).f2), .string ((rd_T29 l0 x5_1).f3), .slice A101_4 ((rd_T29 l0 x5_1).f4).length c101_4], .agg #[.int .i64 ((rd_T29 l1 x5_1).f0), .int .i64 ((rd_T29 l1 x5_1).f1), .int .i64 ((rd_T29 l1 x5_1).f2), .string ((rd_T29 l1 x5_1).f3), .slice A102_4 ((rd_T29 l1 x5_1).f4).length c102_4]] (by rfl) rfl rfl (by (try simp only [List.map_toArray, List.map_cons, List.map_nil]); first | done | rfl | (simp only [List.length_drop, List.length_take]; rfl)) ?_
                with_reducible refine (HeqExp.out ((rd_T29 l0 x5_1).f0) ((rd_T29 l0 x5_1).f1) ((rd_T29 l0 x5_1).f2) ((rd_T29 l0 x5_1).f3) _ _ ((rd_T29 l0 x5_1).f4) ((rd_T29 l1 x5_1).f0) ((rd_T29 l1 x5_1).f1) ((rd_T29 l1 x5_1).f2) ((rd_T29 l1 x5_1).f3) _ _ ((rd_T29 l1 x5_1).f4) true _ ?side1 ?side2 ?side3 ?side4 A7.out).mono ?_
                (case side1 => repeat (first | exact (Kd.C_below HR101_4.out HB.out) | (with_reducible refine Kd.C_alloc ?_ _) | (with_reducible refine Kd.C_drewN ?_ _) | (with_reducible refine Kd.C_drew ?_)))
                (case side2 => exact HC101_4.out)
                (case side3 => repeat (first | exact (Kd.C_below HR102_4.out HB.out) | (with_reducible refine Kd.C_alloc ?_ _) | (with_reducible refine Kd.C_drewN ?_ _) | (with_reducible refine Kd.C_drew ?_)))
                (case side4 => exact HC102_4.out)
                rintro e w10 ⟨rfl, hb⟩
                refine ⟨_, rfl, ?_⟩
                have n0_ := Zs0.mk (blT (by repeat (first | (with_reducible first | exact HB.out | apply blA | apply pbN | apply bl1) | exact HB.out)) hb)
                clear HB
                have HB := n0_
                clear n0_
                (try clear hb)
                (try clear hb2)
                (try clear hk)
                (try clear hi)
                refine hK.out _ _ ⟨((HB.out.cell (World.block_lt_of_cell? w _ hw101_0)).trans hw101_0), ((HB.out.cell (World.block_lt_of_cell? w _ hw101_1)).trans hw101_1), ((HB.out.cell (World.block_lt_of_cell? w _ hw101_2)).trans hw101_2), ((HB.out.cell (World.block_lt_of_cell? w _ hw101_3)).trans hw101_3), ((HB.out.cell (World.block_lt_of_cell? w _ hw101_4)).trans hw101_4), ((HB.out.cell (World.block_lt_of_cell? w _ hw102_0)).trans hw102_0), ((HB.out.cell (World.block_lt_of_cell? w _ hw102_1)).trans hw102_1), ((HB.out.cell (World.block_lt_of_cell? w _ hw102_2)).trans hw102_2), ((HB.out.cell (World.block_lt_of_cell? w _ hw102_3)).trans hw102_3), ((HB.out.cell (World.block_lt_of_cell? w _ hw102_4)).trans hw102_4)⟩ (fun hHeld => ?_)
                clear hK K
                refine norm_ (a' := ?_) ?_ ?_
                rotate_left
                · show Act.put _ (some 25) _ = _
                  simp only [Act.put, List.setIfInBounds_toArray, List.set_cons_zero, List.set_cons_succ, i64_w, i32_w]
                  rfl
                refine pure_ (i := 9) (N := some 26) (v := ?_) (a' := ?_) #[true, true, true, true, true, true, true, true, true, true] rfl rfl (any_of HT_.out (by kernel_rfl)) (fun _ _ _ h => h) (Or.inl ⟨by rfl, ?_⟩) ?_ ?_
                rotate_left
                · intro w'
                  go_simp
                  with_reducible rfl
                rotate_left
                · simp only [Act.put, List.setIfInBounds_toArray, List.set_cons_zero, List.set_cons_succ, i64_w, i32_w]
                  rfl
                refine done_ (done_of HT_.out (by kernel_rfl)) ?_
                try go_wp2
                go_roundg k1
                case measure => have := HK1.out; omega
                case rel => exact ⟨(wrap64 (x5_1 + 1)), (by first | rfl | (simp; done) | (simp [*]; done)), H', ⟨by have := HK1.out; omega⟩, ⟨by repeat (first | (with_reducible first | exact HB.out | apply blA | apply pbN | apply bl1) | exact HB.out)⟩⟩
              · replace c8 := Bool.eq_false_iff.mpr c8
                subst c8
                have H1 : (some false) = some r := by rw [if_neg (show ¬ (false = true) by decide)] at H; exact H
                clear H
                have H := H1
                clear H1
                obtain rfl := Option.some.inj H
                try go_wp2
                have n0_ := Zs0.mk (bl1 HB.out)
                clear HB
                have HB := n0_
                clear n0_
                have p101 : 0 ≤ (x5_1 : Int) := of_decide_eq_true (by first | (with_reducible assumption) | assumption)
                have q101 : x5_1 < (l0.length : Int) := of_decide_eq_true (by first | (with_reducible assumption) | assumption)
                obtain ⟨ad101, A101_4, c101_4, e101, hx101_0, hx101_1, hx101_2, hx101_3, hx101_4, hl101_4, hi101_4⟩ := at_T29 HR0.out x5_1 p101 q101
                have hw101_4 := hx101_4
                have hw101_3 := hx101_3
                have hw101_2 := hx101_2
                have hw101_1 := hx101_1
                have hw101_0 := hx101_0
                cases e101
                replace hx101_0 := (HB.out.cell (World.block_lt_of_cell? w _ hx101_0)).trans hx101_0
                replace hx101_1 := (HB.out.cell (World.block_lt_of_cell? w _ hx101_1)).trans hx101_1
                replace hx101_2 := (HB.out.cell (World.block_lt_of_cell? w _ hx101_2)).trans hx101_2
                replace hx101_3 := (HB.out.cell (World.block_lt_of_cell? w _ hx101_3)).trans hx101_3
                replace hx101_4 := (HB.out.cell (World.block_lt_of_cell? w _ hx101_4)).trans hx101_4
                have HR101_4 := Zs0.mk hi101_4
                have HC101_4 := Zs0.mk hl101_4
                clear hi101_4 hl101_4
                replace p101 := eq_true p101
                replace q101 := eq_true q101
                have p102 : 0 ≤ (x5_1 : Int) := of_decide_eq_true (by first | (with_reducible assumption) | assumption)
                have q102 : x5_1 < (l1.length : Int) := of_decide_eq_true (by first | (with_reducible assumption) | assumption)
                obtain ⟨ad102, A102_4, c102_4, e102, hx102_0, hx102_1, hx102_2, hx102_3, hx102_4, hl102_4, hi102_4⟩ := at_T29 HR1.out x5_1 p102 q102
                have hw102_4 := hx102_4
                have hw102_3 := hx102_3
                have hw102_2 := hx102_2
                have hw102_1 := hx102_1
                have hw102_0 := hx102_0
                cases e102
                replace hx102_0 := (HB.out.cell (World.block_lt_of_cell? w _ hx102_0)).trans hx102_0
                replace hx102_1 := (HB.out.cell (World.block_lt_of_cell? w _ hx102_1)).trans hx102_1
                replace hx102_2 := (HB.out.cell (World.block_lt_of_cell? w _ hx102_2)).trans hx102_2
                replace hx102_3 := (HB.out.cell (World.block_lt_of_cell? w _ hx102_3)).trans hx102_3
                replace hx102_4 := (HB.out.cell (World.block_lt_of_cell? w _ hx102_4)).trans hx102_4
                have HR102_4 := Zs0.mk hi102_4
                have HC102_4 := Zs0.mk hl102_4
                clear hi102_4 hl102_4
                replace p102 := eq_true p102
                replace q102 := eq_true q102
                refine start_ (n := 10) (S := fun w' => w'.cell? (ad101.add ((x5_1).toNat * 5)) = some (.int .i64 ((rd_T29 l0 x5_1).f0)) ∧ w'.cell? ⟨(ad101.add ((x5_1).toNat * 5)).block, (ad101.add ((x5_1).toNat * 5)).off + 1, none⟩ = some (.int .i64 ((rd_T29 l0 x5_1).f1)) ∧ w'.cell? ⟨(ad101.add ((x5_1).toNat * 5)).block, (ad101.add ((x5_1).toNat * 5)).off + 2, none⟩ = some (.int .i64 ((rd_T29 l0 x5_1).f2)) ∧ w'.cell? ⟨(ad101.add ((x5_1).toNat * 5)).block, (ad101.add ((x5_1).toNat * 5)).off + 3, none⟩ = some (.string ((rd_T29 l0 x5_1).f3)) ∧ w'.cell? ⟨(ad101.add ((x5_1).toNat * 5)).block, (ad101.add ((x5_1).toNat * 5)).off + 4, none⟩ = some (.slice A101_4 ((rd_T29 l0 x5_1).f4).length c101_4) ∧ w'.cell? (ad102.add ((x5_1).toNat * 5)) = some (.int .i64 ((rd_T29 l1 x5_1).f0)) ∧ w'.cell? ⟨(ad102.add ((x5_1).toNat * 5)).block, (ad102.add ((x5_1).toNat * 5)).off + 1, none⟩ = some (.int .i64 ((rd_T29 l1 x5_1).f1)) ∧ w'.cell? ⟨(ad102.add ((x5_1).toNat * 5)).block, (ad102.add ((x5_1).toNat * 5)).off + 2, none⟩ = some (.int .i64 ((rd_T29 l1 x5_1).f2)) ∧ w'.cell? ⟨(ad102.add ((x5_1).toNat * 5)).block, (ad102.add ((x5_1).toNat * 5)).off + 3, none⟩ = some (.string ((rd_T29 l1 x5_1).f3)) ∧ w'.cell? ⟨(ad102.add ((x5_1).toNat * 5)).block, (ad102.add ((x5_1).toNat * 5)).off + 4, none⟩ = some (.slice A102_4 ((rd_T29 l1 x5_1).f4).length c102_4)) (ds := []) #[false, false, false, false, false, false, false, false, false, false] (by kernel_rfl) rfl rfl ⟨((HB.out.cell (World.block_lt_of_cell? w _ hw101_0)).trans hw101_0), ((HB.out.cell (World.block_lt_of_cell? w _ hw101_1)).trans hw101_1), ((HB.out.cell (World.block_lt_of_cell? w _ hw101_2)).trans hw101_2), ((HB.out.cell (World.block_lt_of_cell? w _ hw101_3)).trans hw101_3), ((HB.out.cell (World.block_lt_of_cell? w _ hw101_4)).trans hw101_4), ((HB.out.cell (World.block_lt_of_cell? w _ hw102_0)).trans hw102_0), ((HB.out.cell (World.block_lt_of_cell? w _ hw102_1)).trans hw102_1), ((HB.out.cell (World.block_lt_of_cell? w _ hw102_2)).trans hw102_2), ((HB.out.cell (World.block_lt_of_cell? w _ hw102_3)).trans hw102_3), ((HB.out.cell (World.block_lt_of_cell? w _ hw102_4)).trans hw102_4)⟩ (fun hHeld => ?_); refine with_tabW O_eqExpS.tab6 O_eqExpS.bits6 (fun HT_ HW_ => ?_)
                generalize wr.drew = w11 at HB HR101_4 HR102_4 hx101_0 hx101_1 hx101_2 hx101_3 hx101_4 hx102_0 hx102_1 hx102_2 hx102_3 hx102_4 hHeld ⊢
                refine pure_ (i := 0) (N := some 17) (v := ?_) (a' := ?_) #[true, false, false, false, false, false, false, false, false, false] rfl rfl (any_of HT_.out (by kernel_rfl)) (fun _ _ _ h => h) (Or.inl ⟨by rfl, ?_⟩) ?_ ?_
                rotate_left
                · intro w'
                  go_simp
                  with_reducible rfl
                rotate_left
                · simp only [Act.put, List.setIfInBounds_toArray, List.set_cons_zero, List.set_cons_succ, i64_w, i32_w]
                  rfl
                refine pure_ (i := 1) (N := some 18) (v := ?_) (a' := ?_) #[true, true, false, false, false, false, false, false, false, false] rfl rfl (any_of HT_.out (by kernel_rfl)) (fun _ _ _ h => h) (Or.inl ⟨by rfl, ?_⟩) ?_ ?_
                rotate_left
                · intro w'
                  go_simp
                  with_reducible rfl
                rotate_left
                · simp only [Act.put, List.setIfInBounds_toArray, List.set_cons_zero, List.set_cons_succ, i64_w, i32_w]
                  rfl
                refine pure_ (i := 2) (N := some 19) (v := ?_) (a' := ?_) #[true, true, true, false, false, false, false, false, false, false] rfl rfl (any_of HT_.out (by kernel_rfl)) (fun _ _ _ h => h) (Or.inl ⟨by rfl, ?_⟩) ?_ ?_
                rotate_left
                · intro w'
                  go_simp
                  with_reducible rfl
                rotate_left
                · simp only [Act.put, List.setIfInBounds_toArray, List.set_cons_zero, List.set_cons_succ, i64_w, i32_w]
                  rfl
                refine pure_ (i := 4) (N := some 21) (v := ?_) (a' := ?_) #[true, true, true, false, true, false, false, false, false, false] rfl rfl (any_of HT_.out (by kernel_rfl)) (fun _ _ _ h => h) (Or.inl ⟨by rfl, ?_⟩) ?_ ?_
                rotate_left
                · intro w'
                  go_simp
                  with_reducible rfl
                rotate_left
                · simp only [Act.put, List.setIfInBounds_toArray, List.set_cons_zero, List.set_cons_succ, i64_w, i32_w]
                  rfl
                refine pure_ (i := 5) (N := some 22) (v := ?_) (a' := ?_) #[true, true, true, false, true, true, false, false, false, false] rfl rfl (any_of HT_.out (by kernel_rfl)) (fun _ _ _ h => h) (Or.inl ⟨by rfl, ?_⟩) ?_ ?_
                rotate_left
                · intro w'
                  go_simp
                  with_reducible rfl
                rotate_left
                · simp only [Act.put, List.setIfInBounds_toArray, List.set_cons_zero, List.set_cons_succ, i64_w, i32_w]
                  rfl
                refine pure_ (i := 6) (N := some 23) (v := ?_) (a' := ?_) #[true, true, true, false, true, true, true, false, false, false] rfl rfl (any_of HT_.out (by kernel_rfl)) (fun _ _ _ h => h) (Or.inl ⟨by rfl, ?_⟩) ?_ ?_
                rotate_left
                · intro w'
                  go_simp
                  with_reducible rfl
                rotate_left
                · simp only [Act.put, List.setIfInBounds_toArray, List.set_cons_zero, List.set_cons_succ, i64_w, i32_w]
                  rfl
                refine take_ (i := 3) (N := some 20) (v := ?_) (a' := ?_) #[true, true, true, true, true, true, true, false, false, false] rfl rfl (take_ofW HT_.out HW_.out (by kernel_rfl)) (fun _ _ _ h => h) (Or.inl ⟨by rfl, ?_⟩) hHeld ?_ ?_
                rotate_left
                · rintro w' ⟨s0, s1, s2, s3, s4, s5, s6, s7, s8, s9⟩
                  go_simp
                  with_reducible rfl
                rotate_left
                · simp only [Act.put, List.setIfInBounds_toArray, List.set_cons_zero, List.set_cons_succ, i64_w, i32_w]
                  rfl
                refine take_ (i := 7) (N := some 24) (v := ?_) (a' := ?_) #[true, true, true, true, true, true, true, true, false, false] rfl rfl (take_ofW HT_.out HW_.out (by kernel_rfl)) (fun _ _ _ h => h) (Or.inl ⟨by rfl, ?_⟩) hHeld ?_ ?_
                rotate_left
                · rintro w' ⟨s0, s1, s2, s3, s4, s5, s6, s7, s8, s9⟩
                  go_simp
                  with_reducible rfl
                rotate_left
                · simp only [Act.put, List.setIfInBounds_toArray, List.set_cons_zero, List.set_cons_succ, i64_w, i32_w]
                  rfl
                refine one_ (i := 8) (N := some 25) #[true, true, true, true, true, true, true, true, true, false] rfl rfl (one_of HT_.out (by kernel_rfl)) (by decide) (fun K hK => ?_)
                refine goes_ Try.func13 (by kernel_rfl) rfl #[.agg #[.int .i64 ((rd_T29 l0 x5_1).f0), .int .i64 ((rd_T29 l0 x5_1).f1), .int .i64 ((rd_T29 l0 x5_1).f2), .string ((rd_T29 l0 x5_1).f3), .slice A101_4 ((rd_T29 l0 x5_1).f4).length c101_4], .agg #[.int .i64 ((rd_T29 l1 x5_1).f0), .int .i64 ((rd_T29 l1 x5_1).f1), .int .i64 ((rd_T29 l1 x5_1).f2), .string ((rd_T29 l1 x5_1).f3), .slice A102_4 ((rd_T29 l1 x5_1).f4).length c102_4]] (by rfl) rfl rfl (by (try simp only [List.map_toArray, List.map_cons, List.map_nil]); first | done | rfl | (simp only [List.length_drop, List.length_take]; rfl)) ?_
                with_reducible refine (HeqExp.out ((rd_T29 l0 x5_1).f0) ((rd_T29 l0 x5_1).f1) ((rd_T29 l0 x5_1).f2) ((rd_T29 l0 x5_1).f3) _ _ ((rd_T29 l0 x5_1).f4) ((rd_T29 l1 x5_1).f0) ((rd_T29 l1 x5_1).f1) ((rd_T29 l1 x5_1).f2) ((rd_T29 l1 x5_1).f3) _ _ ((rd_T29 l1 x5_1).f4) false _ ?side1 ?side2 ?side3 ?side4 A7.out).mono ?_
                (case side1 => repeat (first | exact (Kd.C_below HR101_4.out HB.out) | (with_reducible refine Kd.C_alloc ?_ _) | (with_reducible refine Kd.C_drewN ?_ _) | (with_reducible refine Kd.C_drew ?_)))
                (case side2 => exact HC101_4.out)
                (case side3 => repeat (first | exact (Kd.C_below HR102_4.out HB.out) | (with_reducible refine Kd.C_alloc ?_ _) | (with_reducible refine Kd.C_drewN ?_ _) | (with_reducible refine Kd.C_drew ?_)))
                (case side4 => exact HC102_4.out)
                rintro e w12 ⟨rfl, hb⟩
                refine ⟨_, rfl, ?_⟩
                have n0_ := Zs0.mk (blT (by repeat (first | (with_reducible first | exact HB.out | apply blA | apply pbN | apply bl1) | exact HB.out)) hb)
                clear HB
                have HB := n0_
                clear n0_
                (try clear hb)
                (try clear hb2)
                (try clear hk)
                (try clear hi)
                refine hK.out _ _ ⟨((HB.out.cell (World.block_lt_of_cell? w _ hw101_0)).trans hw101_0), ((HB.out.cell (World.block_lt_of_cell? w _ hw101_1)).trans hw101_1), ((HB.out.cell (World.block_lt_of_cell? w _ hw101_2)).trans hw101_2), ((HB.out.cell (World.block_lt_of_cell? w _ hw101_3)).trans hw101_3), ((HB.out.cell (World.block_lt_of_cell? w _ hw101_4)).trans hw101_4), ((HB.out.cell (World.block_lt_of_cell? w _ hw102_0)).trans hw102_0), ((HB.out.cell (World.block_lt_of_cell? w _ hw102_1)).trans hw102_1), ((HB.out.cell (World.block_lt_of_cell? w _ hw102_2)).trans hw102_2), ((HB.out.cell (World.block_lt_of_cell? w _ hw102_3)).trans hw102_3), ((HB.out.cell (World.block_lt_of_cell? w _ hw102_4)).trans hw102_4)⟩ (fun hHeld => ?_)
                clear hK K
                refine norm_ (a' := ?_) ?_ ?_
                rotate_left
                · show Act.put _ (some 25) _ = _
                  simp only [Act.put, List.setIfInBounds_toArray, List.set_cons_zero, List.set_cons_succ, i64_w, i32_w]
                  rfl
                refine pure_ (i := 9) (N := some 26) (v := ?_) (a' := ?_) #[true, true, true, true, true, true, true, true, true, true] rfl rfl (any_of HT_.out (by kernel_rfl)) (fun _ _ _ h => h) (Or.inl ⟨by rfl, ?_⟩) ?_ ?_
                rotate_left
                · intro w'
                  go_simp
                  with_reducible rfl
                rotate_left
                · simp only [Act.put, List.setIfInBounds_toArray, List.set_cons_zero, List.set_cons_succ, i64_w, i32_w]
                  rfl
                refine done_ (done_of HT_.out (by kernel_rfl)) ?_
                try go_wp2
                go_ret
                exact ⟨by first | rfl | (simp [eWn, eWs] <;> rfl) | (simp [*, eWn, eWs] <;> rfl), by repeat (first | (with_reducible first | exact HB.out | apply blA | apply pbN | apply bl1) | exact HB.out)⟩
            · rw [if_neg c6] at H
              exact absurd H (by simp)
          · rw [if_neg c5] at H
            exact absurd H (by simp)
        · rw [if_neg c4] at H
          have c4b0 : decide (x5_1 < (l0.length : Int)) = false := decide_eq_false c4
          clear c4
          obtain rfl := Option.some.inj H
          go_wp2
          go_ret
          exact ⟨by first | rfl | (simp [eWn, eWs] <;> rfl) | (simp [*, eWn, eWs] <;> rfl), by repeat (first | (with_reducible first | exact HB.out | apply blA | apply pbN | apply bl1) | exact HB.out)⟩
  · rw [if_neg c3] at H
    have c3b0 : ((l0.length : Int) == (l1.length : Int)) = false := beq_eq_false_iff_ne.mpr c3
    have c3b1 : ((l0.length : Int) != (l1.length : Int)) = true := bne_iff_ne.mpr c3
    have c3b2 : (l0.length == l1.length) = false := by first | simpa using c3 | (simp at c3 ⊢; omega)
    obtain rfl := Option.some.inj H
    go_enter Try.func36, Try.ntmps36
    go_wp2
    go_ret
    exact ⟨by first | rfl | (simp [eWn, eWs] <;> rfl) | (simp [*, eWn, eWs] <;> rfl), by repeat (first | (with_reducible first | exact HB.out | apply blA | apply pbN | apply bl1) | exact HB.out)⟩

end Go.Proofs.Ytjcggilkfofiaaa.P
namespace Go.Proofs.Ytjcggilkfofiaaa.P
open Go.RowKit Go.Proofs.Ytjcggilkfofiaaa.Ex Go.Proofs.YtjcggilkfofiaaaW.PrintWords Go.Proofs.Ytjcggilkfofiaaa.Aux
set_option linter.unusedVariables false
set_option linter.unusedSimpArgs false
theorem eq_loop (G : Int → Int → Int → ByteArray → List S29 → Int → Int → Int → ByteArray → List S29 → Option Bool) (l m : List S29) (hG : ∀ x ∈ l, ∀ y ∈ m, G x.f0 x.f1 x.f2 x.f3 x.f4 y.f0 y.f1 y.f2 y.f3 y.f4 = some (eqE x y)) (hm : l.length = m.length) (hl : l.length < 4611686018427387904) (d : Nat) :
    ∀ i : Nat, i + d = l.length → Ev (fun k => O_eqExpS.l0 G k l m (i : Int)) (eqEs (l.drop i) (m.drop i)) := by
  induction d with
  | zero =>
    intro i hi
    refine Ev.step (f := fun _ => some true) (fun k => by rw [O_eqExpS.l0, if_neg (by omega)]) ?_
    rw [List.drop_eq_nil_of_le (by omega), List.drop_eq_nil_of_le (by omega), eqEs]
    exact Ev.now _
  | succ d ih =>
    intro i hi
    have hp : i < l.length := by omega
    have hq : i < m.length := by omega
    have hw : wrap64 ((i : Int) + 1) = ((i + 1 : Nat) : Int) := by rw [wrap_ok (by omega) (by omega)]; omega
    have hg := hG l[i] (List.getElem_mem hp) m[i] (List.getElem_mem hq)
    rw [List.drop_eq_getElem_cons hp, List.drop_eq_getElem_cons hq, eqEs]
    cases he : eqE l[i] m[i] with
    | true =>
      rw [he] at hg
      rw [Bool.true_and]
      exact Ev.step (fun k => by rw [O_eqExpS.l0, if_pos (by omega), if_pos (by omega), if_pos (by omega), rd_IE l i hp, rd_IE m i hq, hg, Option.bind_some, if_pos rfl, hw]) (ih (i + 1) (by omega))
    | false =>
      rw [he] at hg
      exact Ev.step (f := fun _ => some false) (fun k => by rw [O_eqExpS.l0, if_pos (by omega), if_pos (by omega), if_pos (by omega), rd_IE l i hp, rd_IE m i hq, hg, Option.bind_some, if_neg (by simp)]) (Ev.now _)
theorem eqEs_ne : ∀ {l m : List S29}, l.length ≠ m.length → eqEs l m = false := fun {l m} h => by
  cases he : eqEs l m with
  | false => rfl
  | true => exact absurd (eqEs_len he) h
theorem eqS_ev (G : Int → Int → Int → ByteArray → List S29 → Int → Int → Int → ByteArray → List S29 → Option Bool) (l m : List S29) (hG : ∀ x ∈ l, ∀ y ∈ m, G x.f0 x.f1 x.f2 x.f3 x.f4 y.f0 y.f1 y.f2 y.f3 y.f4 = some (eqE x y)) (hl : l.length < 4611686018427387904) : Ev (fun k => O_eqExpS.f G k l m) (eqEs l m) := by
  by_cases hm : l.length = m.length
  · have h := eq_loop G l m hG hm hl l.length 0 (by omega)
    rw [List.drop_zero, List.drop_zero] at h
    exact Ev.congr (fun k => by rw [O_eqExpS.f, if_pos (by omega)]; rfl) h
  · rw [eqEs_ne hm]
    exact Ev.congr (fun k => by rw [O_eqExpS.f, if_neg (by omega)]) (Ev.now _)
open Classical in
noncomputable def GeqE (n : Nat) (a b c : Int) (s : ByteArray) (l : List S29) (a' b' c' : Int) (s' : ByteArray) (l' : List S29) : Option Bool := if SizeOf.sizeOf (⟨a, b, c, s, l⟩ : S29) < n ∧ nEs l < 4611686018427387904 then some (eqE ⟨a, b, c, s, l⟩ ⟨a', b', c', s', l'⟩) else none
open Classical in
noncomputable def GeqEs (n : Nat) (l l' : List S29) : Option Bool := if (∀ x ∈ l, SizeOf.sizeOf x < n) ∧ nEs l < 4611686018427387904 then some (eqEs l l') else none
theorem nEs_kid {l : List S29} {x : S29} (h : x ∈ l) : nEs x.f4 ≤ nEs l := by
  have h1 := nEs_mem h
  have h2 := nE_eq x
  omega
theorem eqEs_made {n : Nat} (h : C_eqExp (GeqE n)) : C_eqExpS (GeqEs n) := by
  intro A0 c0 l0 A1 c1 l1 r w hr0 hc0 hr1 hc1 hs
  unfold GeqEs at hs
  by_cases hc : (∀ x ∈ l0, SizeOf.sizeOf x < n) ∧ nEs l0 < 4611686018427387904
  · rw [if_pos hc] at hs
    obtain rfl := Option.some.inj hs
    have hn := nEs_len l0
    have ev := eqS_ev (GeqE n) l0 l1 (fun x hx y hy => by have q1 := hc.1 x hx; have q2 := nEs_kid hx; have q3 := hc.2; cases x; cases y; exact if_pos ⟨q1, Nat.lt_of_le_of_lt q2 q3⟩) (by omega)
    obtain ⟨k, hk⟩ := ev.rounds
    exact O_eqExpS.calls (GeqE n) ⟨h⟩ k A0 c0 l0 A1 c1 l1 _ w hr0 hc0 hr1 hc1 hk
  · rw [if_neg hc] at hs
    cases hs
theorem eqE_made : ∀ n, C_eqExp (GeqE n)
  | 0 => by
    intro a0_0 a0_1 a0_2 a0_3 A0_4 c0_4 l0_4 a1_0 a1_1 a1_2 a1_3 A1_4 c1_4 l1_4 r w hr0 hc0 hr1 hc1 h
    unfold GeqE at h
    rw [if_neg (fun h => absurd h.1 (Nat.not_lt_zero _))] at h
    cases h
  | n + 1 => by
    intro a0_0 a0_1 a0_2 a0_3 A0_4 c0_4 l0_4 a1_0 a1_1 a1_2 a1_3 A1_4 c1_4 l1_4 r w hr0 hc0 hr1 hc1 h
    unfold GeqE at h
    by_cases hh : SizeOf.sizeOf (⟨a0_0, a0_1, a0_2, a0_3, l0_4⟩ : S29) < n + 1 ∧ nEs l0_4 < 4611686018427387904
    · rw [if_pos hh] at h
      obtain rfl := Option.some.inj h
      refine O_eqExp.calls (GeqEs n) ⟨eqEs_made (eqE_made n)⟩ a0_0 a0_1 a0_2 a0_3 A0_4 c0_4 l0_4 a1_0 a1_1 a1_2 a1_3 A1_4 c1_4 l1_4 _ w hr0 hc0 hr1 hc1 ?_
      have hg : GeqEs n l0_4 l1_4 = some (eqEs l0_4 l1_4) := by
        unfold GeqEs
        rw [if_pos ⟨fun x hx => by have := kid_lt (x := ⟨a0_0, a0_1, a0_2, a0_3, l0_4⟩) hx; have := hh.1; omega, hh.2⟩]
      rw [O_eqExp.f, hg, Option.bind_some, eqE_eq]
      dsimp only
      by_cases e0 : a0_0 = a1_0
      · by_cases e1 : a0_1 = a1_1
        · by_cases e2 : a0_2 = a1_2
          · by_cases e3 : a0_3.toList = a1_3.toList
            · cases eqEs l0_4 l1_4 <;> simp [e0, e1, e2, e3]
            · simp [e0, e1, e2, e3]
          · simp [e0, e1, e2]
        · simp [e0, e1]
      · simp [e0]
    · rw [if_neg hh] at h
      cases h
/-- Whether two expressions are alike. -/
def laws_eqExp.f (a b c : Int) (s : ByteArray) (l : List S29) (a' b' c' : Int) (s' : ByteArray) (l' : List S29) : Option Bool := if nEs l < 4611686018427387904 then some (eqE ⟨a, b, c, s, l⟩ ⟨a', b', c', s', l'⟩) else none
theorem calls_eqExp : C_eqExp laws_eqExp.f := by
  intro a0_0 a0_1 a0_2 a0_3 A0_4 c0_4 l0_4 a1_0 a1_1 a1_2 a1_3 A1_4 c1_4 l1_4 r w hr0 hc0 hr1 hc1 h
  refine eqE_made (SizeOf.sizeOf (⟨a0_0, a0_1, a0_2, a0_3, l0_4⟩ : S29) + 1) a0_0 a0_1 a0_2 a0_3 A0_4 c0_4 l0_4 a1_0 a1_1 a1_2 a1_3 A1_4 c1_4 l1_4 r w hr0 hc0 hr1 hc1 ?_
  unfold laws_eqExp.f at h
  unfold GeqE
  by_cases hh : nEs l0_4 < 4611686018427387904
  · rw [if_pos hh] at h
    rw [if_pos ⟨Nat.lt_succ_self _, hh⟩]
    exact h
  · rw [if_neg hh] at h
    cases h
end Go.Proofs.Ytjcggilkfofiaaa.P
namespace Go.Proofs.Ytjcggilkfofiaaa.P
open Go.RowKit Go.Proofs.YtjcggilkfofiaaaW.PrintWords
set_option linter.unusedVariables false
theorem laws_szExp.calls (a0_0 : Int) (a0_1 : Int) (a0_2 : Int) (a0_3 : ByteArray) (A0_4 : Option Addr) (c0_4 : Nat) (l0_4 : List (S24)) (a1 : Int) (r : Int) (w : World) (hr0_4 : Kd.C k24 w A0_4 l0_4.length l0_4) (hc0_4 : l0_4.length ≤ c0_4) (h : laws_szExp.f a0_0 a0_1 a0_2 a0_3 l0_4 a1 = some r) :
    Calls Try.prog 9 #[.agg #[.int .i64 a0_0, .int .i64 a0_1, .int .i64 a0_2, .string a0_3, .slice A0_4 l0_4.length c0_4], .int .i64 a1] w fun e w' => e = .returned (.int .i64 r) ∧ Below w.heap.size w w' := calls_szExp a0_0 a0_1 a0_2 a0_3 A0_4 c0_4 l0_4 a1 r w hr0_4 hc0_4 h
theorem laws_toExp.calls (a0_0 : Int) (a0_1 : Int) (a0_2 : Int) (a0_3 : ByteArray) (A0_4 : Option Addr) (c0_4 : Nat) (l0_4 : List (S24)) (r1 : Int) (r2 : Int) (r3 : Int) (r4 : ByteArray) (r5 : List (S29)) (w : World) (hr0_4 : Kd.C k24 w A0_4 l0_4.length l0_4) (hc0_4 : l0_4.length ≤ c0_4) (h : laws_toExp.f a0_0 a0_1 a0_2 a0_3 l0_4 = some (r1, r2, r3, r4, r5)) :
    Calls Try.prog 11 #[.agg #[.int .i64 a0_0, .int .i64 a0_1, .int .i64 a0_2, .string a0_3, .slice A0_4 l0_4.length c0_4]] w fun e w' => ∃ v4_ : Value, e = .returned (.agg #[.int .i64 r1, .int .i64 r2, .int .i64 r3, .string r4, v4_]) ∧ Kd.R k29 29 w' w.heap.size (fun _ => True) v4_ r5 ∧ Below w.heap.size w w' := calls_toExp a0_0 a0_1 a0_2 a0_3 A0_4 c0_4 l0_4 r1 r2 r3 r4 r5 w hr0_4 hc0_4 h
theorem laws_eqExp.calls (a0_0 : Int) (a0_1 : Int) (a0_2 : Int) (a0_3 : ByteArray) (A0_4 : Option Addr) (c0_4 : Nat) (l0_4 : List (S29)) (a1_0 : Int) (a1_1 : Int) (a1_2 : Int) (a1_3 : ByteArray) (A1_4 : Option Addr) (c1_4 : Nat) (l1_4 : List (S29)) (r : Bool) (w : World) (hr0_4 : Kd.C k29 w A0_4 l0_4.length l0_4) (hc0_4 : l0_4.length ≤ c0_4) (hr1_4 : Kd.C k29 w A1_4 l1_4.length l1_4) (hc1_4 : l1_4.length ≤ c1_4) (h : laws_eqExp.f a0_0 a0_1 a0_2 a0_3 l0_4 a1_0 a1_1 a1_2 a1_3 l1_4 = some r) :
    Calls Try.prog 13 #[.agg #[.int .i64 a0_0, .int .i64 a0_1, .int .i64 a0_2, .string a0_3, .slice A0_4 l0_4.length c0_4], .agg #[.int .i64 a1_0, .int .i64 a1_1, .int .i64 a1_2, .string a1_3, .slice A1_4 l1_4.length c1_4]] w fun e w' => e = .returned (.bool r) ∧ Below w.heap.size w w' := calls_eqExp a0_0 a0_1 a0_2 a0_3 A0_4 c0_4 l0_4 a1_0 a1_1 a1_2 a1_3 A1_4 c1_4 l1_4 r w hr0_4 hc0_4 hr1_4 hc1_4 h
end Go.Proofs.Ytjcggilkfofiaaa.P
namespace Go.Proofs.Ytjcggilkfofiaaa.P
def addL (n : Int) : List Int → List Int
  | [] => [n]
  | x :: xs => if x < n then x :: addL n xs else if x = n then x :: xs else n :: x :: xs
theorem addL_mem (n : Int) : ∀ (l : List Int) (y : Int), y ∈ addL n l ↔ y = n ∨ y ∈ l
  | [], y => by simp [addL]
  | x :: xs, y => by
    unfold addL
    by_cases h : x < n
    · rw [if_pos h, List.mem_cons, addL_mem n xs y, List.mem_cons]
      exact ⟨fun h => by rcases h with h | h | h <;> simp [h], fun h => by rcases h with h | h | h <;> simp [h]⟩
    · rw [if_neg h]
      by_cases e : x = n
      · rw [if_pos e]
        subst e
        simp
      · rw [if_neg e]
        simp
theorem addL_asc (n : Int) : ∀ (l : List Int), l.Pairwise (· < ·) → (addL n l).Pairwise (· < ·)
  | [], _ => by simp [addL]
  | x :: xs, hl => by
    obtain ⟨h1, h2⟩ := List.pairwise_cons.1 hl
    unfold addL
    by_cases h : x < n
    · rw [if_pos h]
      refine List.pairwise_cons.2 ⟨fun y hy => ?_, addL_asc n xs h2⟩
      rcases (addL_mem n xs y).1 hy with rfl | hy
      · exact h
      · exact h1 y hy
    · rw [if_neg h]
      by_cases e : x = n
      · rw [if_pos e]
        exact hl
      · rw [if_neg e]
        refine List.pairwise_cons.2 ⟨fun y hy => ?_, hl⟩
        rcases List.mem_cons.1 hy with rfl | hy
        · omega
        · have := h1 y hy
          omega
theorem addL_length (n : Int) : ∀ (l : List Int), (addL n l).length ≤ l.length + 1
  | [] => by simp [addL]
  | x :: xs => by
    have := addL_length n xs
    unfold addL
    split
    · simp only [List.length_cons]; omega
    · split <;> simp only [List.length_cons] <;> omega
/-- Ascending rows with the same members are one. -/
theorem asc_one : ∀ (l m : List Int), l.Pairwise (· < ·) → m.Pairwise (· < ·) → (∀ y, y ∈ l ↔ y ∈ m) → l = m
  | [], [], _, _, _ => rfl
  | [], y :: ys, _, _, h => absurd ((h y).2 (by simp)) (by simp)
  | x :: xs, [], _, _, h => absurd ((h x).1 (by simp)) (by simp)
  | x :: xs, y :: ys, hl, hm, h => by
    obtain ⟨a1, a2⟩ := List.pairwise_cons.1 hl
    obtain ⟨b1, b2⟩ := List.pairwise_cons.1 hm
    have e : x = y := by
      rcases List.mem_cons.1 ((h x).1 (by simp)) with e | e
      · exact e
      · rcases List.mem_cons.1 ((h y).2 (by simp)) with f | f
        · exact f.symm
        · have := b1 x e
          have := a1 y f
          omega
    subst e
    rw [asc_one xs ys a2 b2 fun z => ⟨fun hz => ?_, fun hz => ?_⟩]
    · rcases List.mem_cons.1 ((h z).1 (List.mem_cons_of_mem _ hz)) with rfl | f
      · exact absurd (a1 z hz) (by omega)
      · exact f
    · rcases List.mem_cons.1 ((h z).2 (List.mem_cons_of_mem _ hz)) with rfl | f
      · exact absurd (b1 z hz) (by omega)
      · exact f
end Go.Proofs.Ytjcggilkfofiaaa.P
