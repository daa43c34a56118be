/- Functions of the program and of the reference as plain functions, and that the Go code comes to their answers; several texts in one. No conditions beyond what each theorem says. -/
import Derived.Test.YtjcggilkfofiaaaMTouches0a
import Derived.Shelf.Abstract
import Derived.Test.YtjcggilkfofiaaaMTouches0d
import Derived.Test.YtjcggilkfofiaaaMTouches0c
namespace Go.Proofs.Ytjcggilkfofiaaa.P
open Go.RowKit Go.Proofs.Ytjcggilkfofiaaa.Ex Go.Proofs.YtjcggilkfofiaaaW.PrintWords Go.Proofs.YtjcggilkfofiaaaW.PrintLast Go.Proofs.YtjcggilkfofiaaaW.PrintMore Go.Proofs.Ytjcggilkfofiaaa.Aux
set_option linter.unusedVariables false
set_option linter.unusedSimpArgs false
/-- Blocks stay but for those of whole numbers and of rows of them. -/
def KeepT (w w' : World) : Prop := w.heap.size ≤ w'.heap.size ∧ ∀ (k : Nat) (cs : Array Value) (t : TypeId), w.heap[k]? = some (.cells cs t (0, 0)) → t ≠ 3 → t ≠ 32 → w'.heap[k]? = some (.cells cs t (0, 0))
theorem KeepT.refl (w : World) : KeepT w w := ⟨Nat.le_refl _, fun k cs t h _ _ => h⟩
theorem KeepT.trans {w w1 w2 : World} (h : KeepT w w1) (h' : KeepT w1 w2) : KeepT w w2 := ⟨Nat.le_trans h.1 h'.1, fun k cs t hk h3 h32 => h'.2 k cs t (h.2 k cs t hk h3 h32) h3 h32⟩
theorem KeepT.of_below {w w' : World} (h : Below w.heap.size w w') : KeepT w w' := ⟨h.size, fun k cs t hk _ _ => (h.block k (blk_lt hk)).trans hk⟩
/-- A function value over expressions: what it keeps (I), what it does to it. -/
structure CloE {σ : Type} (g : Nat) (lb : Array Value) (I : σ → World → Prop) (step : S29 → σ → σ) (sz : σ → Nat) (M : Nat) (w0 : World) : Prop where
  enter : ∀ args w, (callFunc g args).run Try.prog w = .ok (.enter g args) w
  below : ∀ s W, I s W → Below w0.heap.size w0 W
  mono : ∀ s W W', I s W → Below W.heap.size W W' → I s W'
  room : ∀ x s, sz (step x s) ≤ sz s + 1
  call : ∀ (x : S29) s W A c, I s W → sz s + 1 ≤ M → Calls Try.prog g (#[.agg #[.int .i64 x.f0, .int .i64 x.f1, .int .i64 x.f2, .string x.f3, .slice A x.f4.length c]] ++ lb) W fun e w' => e = .returned (.tuple #[]) ∧ I (step x s) w' ∧ KeepT W w'
/-- The state behind a row of them. -/
def fol {α σ : Type} (step : α → σ → σ) (s : σ) (l : List α) : σ := l.foldl (fun s x => step x s) s
theorem fol_append {α σ : Type} (step : α → σ → σ) (s : σ) (l m : List α) : fol step s (l ++ m) = fol step (fol step s l) m := by unfold fol; rw [List.foldl_append]
theorem fol_cons {α σ : Type} (step : α → σ → σ) (s : σ) (x : α) (m : List α) : fol step s (x :: m) = fol step (step x s) m := rfl
theorem fol_room {α σ : Type} {step : α → σ → σ} {sz : σ → Nat} (h : ∀ x s, sz (step x s) ≤ sz s + 1) : ∀ (l : List α) (s : σ), sz (fol step s l) ≤ sz s + l.length
  | [], s => Nat.le_refl _
  | x :: xs, s => by
    rw [fol_cons, List.length_cons]
    have h1 := fol_room h xs (step x s)
    have h2 := h x s
    omega
theorem preEs_snoc : ∀ (l : List S29) (k : Nat) (h : k < l.length), preEs (l.take (k + 1)) = preEs (l.take k) ++ preE l[k]
  | x :: xs, 0, h => by simp [preEs]
  | x :: xs, k + 1, h => by
    have := preEs_snoc xs k (by simpa using h)
    simp only [List.take_succ_cons, preEs, this, List.getElem_cons_succ, List.append_assoc]
theorem nEs_take : ∀ (l : List S29) (k : Nat) (h : k < l.length), nEs (l.take k) + nE l[k] ≤ nEs l
  | x :: xs, 0, h => by simp [nEs]
  | x :: xs, k + 1, h => by
    have := nEs_take xs k (by simpa using h)
    simp only [List.take_succ_cons, nEs, List.getElem_cons_succ]
    omega
section
variable {σ : Type} {g : Nat} {lb : Array Value} {I : σ → World → Prop} {step : S29 → σ → σ} {sz : σ → Nat} {M : Nat} {w0 : World}
/-- The contract of impl.eachExp at expressions less deep than n. -/
def EachE (g : Nat) (lb : Array Value) (I : σ → World → Prop) (step : S29 → σ → σ) (sz : σ → Nat) (M : Nat) (w0 : World) (n : Nat) : Prop := ∀ (x : S29) (s : σ) (W : World) (A : Option Addr) (c : Nat), SizeOf.sizeOf x < n → I s W → sz s + nE x ≤ M → x.f4.length ≤ c → Kd.C k29 w0 A x.f4.length x.f4 →
  Calls Try.prog 45 #[.agg #[.int .i64 x.f0, .int .i64 x.f1, .int .i64 x.f2, .string x.f3, .slice A x.f4.length c], .func (.func g) #[] lb] W fun e w' => e = .returned (.tuple #[]) ∧ I (fol step s (preE x)) w' ∧ KeepT W w'
set_option maxRecDepth 100000 in
set_option maxHeartbeats 4000000 in
theorem eachE_step (H : CloE g lb I step sz M w0) (n : Nat) (ih : EachE g lb I step sz M w0 n) : EachE g lb I step sz M w0 (n + 1) := by
  intro x s W A c hx hI hM hc hr
  have hu29 := Try.underlying29
  have eg := H.enter
  have hm : x.f4.length ≤ 9223372036854775807 := Kd.C_max hr
  have hroom := Zs0.mk (fun k (hk : k ≤ x.f4.length) => fol_room H.room (preEs (x.f4.take k)) (step x s))
  obtain ⟨a0, a1, a2, a3, l⟩ := x
  dsimp only at hx hM hc hr hm hroom ⊢
  have hcall := Zs0.mk (fun (o : Obj) => H.call ⟨a0, a1, a2, a3, l⟩ s (W.alloc o) A c (H.mono _ _ _ hI (blA (Below.refl _ _) o)) (by rw [nE_eq] at hM; omega))
  dsimp only at hcall
  have HI := Zs0.mk hI
  have HR := Zs0.mk hr
  have HM := Zs0.mk hM
  have HX := Zs0.mk hx
  have HH := Zs0.mk H
  have IH := Zs0.mk ih
  have HL := Zs0.mk hm
  clear hI hr hM hx H ih hm
  go_enter Try.func45, Try.ntmps45
  go_wp2_with fail
  go_at_fn g
  refine (hcall.out _).mono ?_
  rintro e w1 ⟨rfl, hi1, hk1⟩
  have hb1 := hk1.2 W.heap.size _ _ (heap_alloc_new W _) (by decide) (by decide)
  have hc4 : w1.cell? ⟨W.heap.size, 4, none⟩ = some (.slice A l.length c) := by rw [blk_cell hb1]; rfl
  have HI1 := Zs0.mk hi1
  have HK1 := Zs0.mk ((KeepT.of_below (blA (Below.refl _ _) _)).trans hk1)
  clear hi1 hk1 hb1 hcall
  go_wp2
  go_loopg [12] l.length (fun gg s12 wr => ∃ y : Int, s12 = .int .i64 y ∧ Zs0 (∃ kk : Nat, (kk : Int) = y ∧ kk ≤ l.length ∧ l.length - kk ≤ gg ∧ I (fol step (step ⟨a0, a1, a2, a3, l⟩ s) (preEs (l.take kk))) wr ∧ KeepT W wr))
  case atStart => exact ⟨0, rfl, ⟨⟨0, rfl, Nat.zero_le _, by omega, HI1.out, HK1.out⟩⟩⟩
  case round =>
    obtain ⟨y, rfl, A2⟩ := hrel
    clear hc4
    by_cases hlt : y < (l.length : Int)
    · have c4b0 : decide (y < (l.length : Int)) = true := decide_eq_true hlt
      have p101 : 0 ≤ y := by obtain ⟨kk, h1, _⟩ := A2.out; omega
      have hbw := A2.out
      obtain ⟨kk, hkk, hk1, hk2, hi, hkt⟩ := hbw
      have hbel := HH.out.below _ _ hi
      obtain ⟨ad1, A1, c1, e1, h1_0, h1_1, h1_2, h1_3, h1_4, l1, g1⟩ := at_T29 (Kd.C_below HR.out hbel) y p101 hlt
      cases e1
      have hg1 : Kd.C k29 w0 A1 (rd_T29 l y).f4.length (rd_T29 l y).f4 := by
        obtain ⟨ad2, A2', c2, e2, _, _, _, _, h2_4, _, g2⟩ := at_T29 HR.out y p101 hlt
        cases e2
        have h3 := (hbel.cell (World.block_lt_of_cell? w0 _ h2_4)).trans h2_4
        rw [h1_4] at h3
        injection h3 with h3
        injection h3 with h3
        rw [h3]
        exact g2
      have hkl : kk < l.length := by omega
      have hnt := nEs_take l kk hkl
      have hrm := hroom.out kk hk1
      rw [preEs_len] at hrm
      have hrs := HH.out.room ⟨a0, a1, a2, a3, l⟩ s
      have hMM := HM.out
      rw [nE_eq] at hMM
      dsimp only at hMM
      have hcall := Zs0.mk (fun (o : Obj) => IH.out (rd_T29 l y) (fol step (step ⟨a0, a1, a2, a3, l⟩ s) (preEs (l.take kk))) (wr.alloc o) A1 c1 (by rw [← hkk, rd_IE l kk hkl]; have := kid_lt (x := ⟨a0, a1, a2, a3, l⟩) (List.getElem_mem hkl); have := HX.out; omega) (HH.out.mono _ _ _ hi (blA (Below.refl _ _) o)) (by rw [← hkk, rd_IE l kk hkl]; omega) l1 hg1)
      have HKK := Zs0.mk hkk
      have HKT := Zs0.mk hkt
      have HK2 := Zs0.mk hk2
      have HKL := Zs0.mk hkl
      clear hkk hk1 hk2 hi hkt hbel g1 hg1 hnt hrm hrs hMM hkl
      replace p101 := eq_true p101
      replace hlt := eq_true hlt
      go_wp2_with fail
      go_at_call 45
      (with_reducible refine (hcall.out _).mono ?_)
      rintro e w2 ⟨rfl, hi2, hk2⟩
      have HI2 := Zs0.mk hi2
      have HK2' := Zs0.mk ((KeepT.of_below (blA (Below.refl _ _) _)).trans hk2)
      clear hi2 hk2
      go_wp2
      go_roundg (gk - 1)
      case measure => have h1 := HK2.out; have h2 := HKL.out; omega
      case rel =>
        refine ⟨wrap64 (y + 1), by first | rfl | (simp; done), ⟨?_⟩⟩
        have h1 := HKK.out
        have h2 := HKL.out
        have h3 := HK2.out
        have h4 := HL.out
        refine ⟨kk + 1, by rw [wrap_ok (by omega) (by omega)]; omega, by omega, by omega, ?_, HKT.out.trans HK2'.out⟩
        have h5 := HI2.out
        rw [← h1, rd_IE l kk h2] at h5
        rw [preEs_snoc l kk h2, fol_append]
        exact h5
    · have c4b0 : decide (y < (l.length : Int)) = false := decide_eq_false hlt
      have HLT := Zs0.mk hlt
      clear hlt
      go_wp2
      go_end0
      obtain ⟨kk, rfl, h1, h2, h3, h4⟩ := A2.out
      have h5 := HLT.out
      rw [List.take_of_length_le (by omega)] at h3
      refine ⟨rfl, ?_, h4⟩
      rw [preE_eq, fol_cons]
      exact h3
theorem eachE (H : CloE g lb I step sz M w0) : ∀ n, EachE g lb I step sz M w0 n
  | 0 => fun x s W A c h => absurd h (Nat.not_lt_zero _)
  | n + 1 => eachE_step H n (eachE H n)
end
def wS (x : S62) : Nat := 1 + nEs x.f3
def sumW : List S62 → Nat
  | [] => 0
  | x :: xs => wS x + sumW xs
theorem sumW_append : ∀ l m : List S62, sumW (l ++ m) = sumW l + sumW m
  | [], m => by simp [sumW]
  | x :: xs, m => by simp only [List.cons_append, sumW, sumW_append xs m]; omega
mutual
theorem sumW_preS : ∀ x : S62, sumW (preS x) = nS x
  | ⟨a, b, c, es, p, q⟩ => by rw [preS, nS, sumW, sumW_append, sumW_preSs p, sumW_preSs q]; show 1 + nEs es + _ = _; omega
theorem sumW_preSs : ∀ l : List S62, sumW (preSs l) = nSs l
  | [] => by rw [preSs, nSs, sumW]
  | x :: xs => by rw [preSs, nSs, sumW_append, sumW_preS x, sumW_preSs xs]
end
theorem preSs_snoc : ∀ (l : List S62) (k : Nat) (h : k < l.length), preSs (l.take (k + 1)) = preSs (l.take k) ++ preS l[k]
  | x :: xs, 0, h => by simp [preSs]
  | x :: xs, k + 1, h => by
    have := preSs_snoc xs k (by simpa using h)
    simp only [List.take_succ_cons, preSs, this, List.getElem_cons_succ, List.append_assoc]
theorem nSs_take : ∀ (l : List S62) (k : Nat) (h : k < l.length), nSs (l.take k) + nS l[k] ≤ nSs l
  | x :: xs, 0, h => by simp [nSs]
  | x :: xs, k + 1, h => by
    have := nSs_take xs k (by simpa using h)
    simp only [List.take_succ_cons, nSs, List.getElem_cons_succ]
    omega
theorem fol_roomS {σ : Type} {step : S62 → σ → σ} {sz : σ → Nat} (h : ∀ x s, sz (step x s) ≤ sz s + wS x) : ∀ (l : List S62) (s : σ), sz (fol step s l) ≤ sz s + sumW l
  | [], s => Nat.le_refl _
  | x :: xs, s => by
    rw [fol_cons, sumW]
    have h1 := fol_roomS h xs (step x s)
    have h2 := h x s
    omega
/-- A function value over statements: what it keeps (I), what it does to it. -/
structure CloS {σ : Type} (g : Nat) (lb : Array Value) (I : σ → World → Prop) (step : S62 → σ → σ) (sz : σ → Nat) (M : Nat) (w0 : World) : Prop where
  enter : ∀ args w, (callFunc g args).run Try.prog w = .ok (.enter g args) w
  below : ∀ s W, I s W → Below w0.heap.size w0 W
  mono : ∀ s W W', I s W → Below W.heap.size W W' → I s W'
  room : ∀ x s, sz (step x s) ≤ sz s + wS x
  call : ∀ (x : S62) s W A3 c3 A4 c4 A5 c5, I s W → sz s + wS x ≤ M → x.f3.length ≤ c3 → Kd.C k29 w0 A3 x.f3.length x.f3 → Calls Try.prog g (#[.agg #[.int .i64 x.f0, .int .i64 x.f1, .int .i64 x.f2, .slice A3 x.f3.length c3, .slice A4 x.f4.length c4, .slice A5 x.f5.length c5]] ++ lb) W fun e w' => e = .returned (.tuple #[]) ∧ I (step x s) w' ∧ KeepT W w'
theorem C_same {α : Type} {d : Kd α} {w0 wr : World} {ad : Addr} {A A' : Option Addr} {n m c c' : Nat} {b o : Nat} (hbel : Below w0.heap.size w0 wr) {l : List α} (h : wr.cell? ⟨b, o, none⟩ = some (.slice A n c)) (h' : w0.cell? ⟨b, o, none⟩ = some (.slice A' m c')) (g : d.C w0 A' l.length l) : d.C w0 A l.length l := by
  have h3 := (hbel.cell (World.block_lt_of_cell? w0 _ h')).trans h'
  rw [h] at h3
  injection h3 with h3
  injection h3 with h3
  rw [h3]
  exact g
section
variable {σ : Type} {g : Nat} {lb : Array Value} {I : σ → World → Prop} {step : S62 → σ → σ} {sz : σ → Nat} {M : Nat} {w0 : World}
/-- The contract of impl.eachStmt at statements less deep than n. -/
def EachS (g : Nat) (lb : Array Value) (I : σ → World → Prop) (step : S62 → σ → σ) (sz : σ → Nat) (M : Nat) (w0 : World) (n : Nat) : Prop := ∀ (l : List S62) (s : σ) (W : World) (A : Option Addr) (c : Nat), (∀ x ∈ l, SizeOf.sizeOf x < n) → I s W → sz s + nSs l ≤ M → l.length ≤ c → Kd.C k62 w0 A l.length l →
  Calls Try.prog 43 #[.slice A l.length c, .func (.func g) #[] lb] W fun e w' => e = .returned (.tuple #[]) ∧ I (fol step s (preSs l)) w' ∧ KeepT W w'
set_option maxRecDepth 100000 in
set_option maxHeartbeats 4000000 in
theorem eachS_step (H : CloS g lb I step sz M w0) (n : Nat) (ih : ∀ j, j < n → EachS g lb I step sz M w0 j) : EachS g lb I step sz M w0 n := by
  intro l s W A c hx hI hM hc hr
  have hu62 := Try.underlying62
  have eg := H.enter
  have hm : l.length ≤ 9223372036854775807 := Kd.C_max hr
  have HI := Zs0.mk hI
  have HR := Zs0.mk hr
  have HM := Zs0.mk hM
  have HX := Zs0.mk hx
  have HH := Zs0.mk H
  have IH := Zs0.mk ih
  have HL := Zs0.mk hm
  clear hI hr hM hx H ih hm
  go_enter Try.func43, Try.ntmps43
  go_wp2
  go_loopg [8] l.length (fun gg s8 wr => ∃ y : Int, s8 = .int .i64 y ∧ Zs0 (∃ kk : Nat, (kk : Int) = y ∧ kk ≤ l.length ∧ l.length - kk ≤ gg ∧ I (fol step s (preSs (l.take kk))) wr ∧ KeepT W wr))
  case atStart => exact ⟨0, rfl, ⟨⟨0, rfl, Nat.zero_le _, by omega, by rw [List.take_zero, preSs]; exact HI.out, KeepT.refl _⟩⟩⟩
  case round =>
    obtain ⟨y, rfl, A2⟩ := hrel
    by_cases hlt : y < (l.length : Int)
    · have c4b0 : decide (y < (l.length : Int)) = true := decide_eq_true hlt
      have p101 : 0 ≤ y := by obtain ⟨kk, h1, _⟩ := A2.out; omega
      obtain ⟨kk, hkk, hk1, hk2, hi, hkt⟩ := A2.out
      have hbel := HH.out.below _ _ hi
      have hkl : kk < l.length := by omega
      obtain ⟨ad1, A3, c3, A4, c4, A5, c5, e1, h1_0, h1_1, h1_2, h1_3, h1_4, h1_5, l13, g13, l14, g14, l15, g15⟩ := at_T62 (Kd.C_below HR.out hbel) y p101 hlt
      cases e1
      have hg : Kd.C k29 w0 A3 (rd_T62 l y).f3.length (rd_T62 l y).f3 ∧ Kd.C k62 w0 A4 (rd_T62 l y).f4.length (rd_T62 l y).f4 ∧ Kd.C k62 w0 A5 (rd_T62 l y).f5.length (rd_T62 l y).f5 := by
        obtain ⟨ad2, B3, d3, B4, d4, B5, d5, e2, _, _, _, h2_3, h2_4, h2_5, _, g23, _, g24, _, g25⟩ := at_T62 HR.out y p101 hlt
        cases e2
        exact ⟨C_same (ad := ad1) hbel h1_3 h2_3 g23, C_same (ad := ad1) hbel h1_4 h2_4 g24, C_same (ad := ad1) hbel h1_5 h2_5 g25⟩
      have hrd := rd_IS l kk hkl
      rw [hkk] at hrd
      have hnt := nSs_take l kk hkl
      rw [← hrd, nS_eq] at hnt
      have hrm := fol_roomS HH.out.room (preSs (l.take kk)) s
      rw [sumW_preSs] at hrm
      have hMM := HM.out
      have hsz : SizeOf.sizeOf (rd_T62 l y) < n := by rw [hrd]; exact HX.out _ (List.getElem_mem hkl)
      generalize hst : fol step s (preSs (l.take kk)) = st at hi hrm
      generalize hxx : rd_T62 l y = xx at h1_0 h1_1 h1_2 h1_3 h1_4 h1_5 l13 g13 l14 g14 l15 g15 hg hrd hnt hsz
      have hr1 := HH.out.room xx st
      have hr2 := fol_roomS HH.out.room (preSs xx.f4) (step xx st)
      rw [sumW_preSs] at hr2
      have hw1 : wS xx = 1 + nEs xx.f3 := rfl
      have hc1 := Zs0.mk (fun (o : Obj) => HH.out.call xx st (wr.alloc o) A3 c3 A4 c4 A5 c5 (HH.out.mono _ _ _ hi (blA (Below.refl _ _) o)) (by omega) l13 hg.1)
      have hc2 := Zs0.mk (fun (w1 : World) (h1 : I (step xx st) w1) => IH.out _ hsz xx.f4 (step xx st) w1 A4 c4 (fun z hz => kidS4_lt hz) h1 (by omega) l14 hg.2.1)
      have hc3 := Zs0.mk (fun (w1 : World) (h1 : I (fol step (step xx st) (preSs xx.f4)) w1) => IH.out _ hsz xx.f5 (fol step (step xx st) (preSs xx.f4)) w1 A5 c5 (fun z hz => kidS5_lt hz) h1 (by omega) l15 hg.2.2)
      have HKK := Zs0.mk hkk
      have HKT := Zs0.mk hkt
      have HK2 := Zs0.mk hk2
      have HKL := Zs0.mk hkl
      have HRD := Zs0.mk hrd
      have HST := Zs0.mk hst
      clear hkk hk1 hk2 hi hkt hbel g13 g14 g15 hg hnt hrm hMM hrd hr1 hr2 hw1 hsz hst hxx
      replace p101 := eq_true p101
      replace hlt := eq_true hlt
      go_wp2_with fail
      go_at_fn g
      refine (hc1.out _).mono ?_
      rintro e w1 ⟨rfl, hi1, hk1⟩
      have hb1 := hk1.2 wr.heap.size _ _ (heap_alloc_new wr _) (by decide) (by decide)
      have hx4 : w1.cell? ⟨wr.heap.size, 4, none⟩ = some (.slice A4 xx.f4.length c4) := by rw [blk_cell hb1]; rfl
      have HC2 := Zs0.mk (hc2.out w1 hi1)
      have HB1 := Zs0.mk hb1
      have HK1 := Zs0.mk ((KeepT.of_below (blA (Below.refl _ _) _)).trans hk1)
      clear hi1 hk1 hb1 hc1
      go_wp2_with fail
      go_at_call 43
      (with_reducible refine HC2.out.mono ?_)
      rintro e w2 ⟨rfl, hi2, hk2⟩
      have hb2 := hk2.2 wr.heap.size _ _ HB1.out (by decide) (by decide)
      have hx5 : w2.cell? ⟨wr.heap.size, 5, none⟩ = some (.slice A5 xx.f5.length c5) := by rw [blk_cell hb2]; rfl
      have HC3 := Zs0.mk (hc3.out w2 hi2)
      have HK2' := Zs0.mk (HK1.out.trans hk2)
      clear hi2 hk2 hb2 hx4
      go_wp2_with fail
      go_at_call 43
      (with_reducible refine HC3.out.mono ?_)
      rintro e w3 ⟨rfl, hi3, hk3⟩
      have HI3 := Zs0.mk hi3
      have HK3 := Zs0.mk (HK2'.out.trans hk3)
      clear hi3 hk3 hx5
      go_wp2
      go_roundg (gk - 1)
      case measure => have h1 := HK2.out; have h2 := HKL.out; omega
      case rel =>
        refine ⟨wrap64 (y + 1), by first | rfl | (simp; done), ⟨?_⟩⟩
        have h1 := HKK.out
        have h2 := HKL.out
        have h3 := HK2.out
        have h4 := HL.out
        refine ⟨kk + 1, by rw [wrap_ok (by omega) (by omega)]; omega, by omega, by omega, ?_, HKT.out.trans HK3.out⟩
        have h5 := HI3.out
        rw [preSs_snoc l kk h2, fol_append, HST.out, ← HRD.out, preS_eq, fol_cons, fol_append]
        exact h5
    · have c4b0 : decide (y < (l.length : Int)) = false := decide_eq_false hlt
      have HLT := Zs0.mk hlt
      clear hlt
      go_wp2
      go_end0
      obtain ⟨kk, rfl, h1, h2, h3, h4⟩ := A2.out
      have h5 := HLT.out
      rw [List.take_of_length_le (by omega)] at h3
      exact ⟨rfl, h3, h4⟩
theorem eachS (H : CloS g lb I step sz M w0) (n : Nat) : EachS g lb I step sz M w0 n := by
  induction n using Nat.strongRecOn with
  | ind n ih => exact eachS_step H n ih
end
end Go.Proofs.Ytjcggilkfofiaaa.P
namespace Go.Proofs.Ytjcggilkfofiaaa.Ex
open Go.RowKit Go.Proofs.Ytjcggilkfofiaaa.P Go.Proofs.YtjcggilkfofiaaaW.PrintWords Go.Proofs.YtjcggilkfofiaaaW.PrintLast Go.Proofs.Ytjcggilkfofiaaa.Aux
set_option linter.unusedVariables false
set_option linter.unusedSimpArgs false
theorem preEs_drop (l : List S29) (i : Nat) (h : i < l.length) : preEs (l.drop i) = preE l[i] ++ preEs (l.drop (i + 1)) := by
  rw [List.drop_eq_getElem_cons h, preEs]
theorem nEs_drop (l : List S29) (i : Nat) (h : i < l.length) : nEs (l.drop i) = nE l[i] + nEs (l.drop (i + 1)) := by
  rw [List.drop_eq_getElem_cons h, nEs]
theorem exps_loop (l : List S29) (a b c : Int) (s : ByteArray) (hN : nEs l < 1099511627776) (ih : ∀ x ∈ l, Ev (fun k => spec_l02Exps.f k x.f0 x.f1 x.f2 x.f3 x.f4) (preE x)) (d : Nat) : ∀ (i : Nat) (acc : List S29), i + d = l.length → acc.length + nEs (l.drop i) < 1099511627776 → Ev (fun k => spec_l02Exps.l0 k acc (i : Int) a b c s l) (acc ++ preEs (l.drop i)) := by
  have hll := nEs_len l
  induction d with
  | zero =>
    intro i acc hi hn
    refine Ev.step (f := fun _ => some acc) (fun k => by rw [spec_l02Exps.l0, if_neg (by omega)]) ?_
    rw [List.drop_eq_nil_of_le (by omega), preEs, List.append_nil]
    exact Ev.now _
  | succ d ihd =>
    intro i acc hi hn
    have hp : i < l.length := by omega
    rw [nEs_drop l i hp] at hn
    have hl2 := nEs_len (l.drop i)
    rw [List.length_drop, nEs_drop l i hp] at hl2
    refine Ev.step (fun k => by rw [spec_l02Exps.l0, if_pos (by omega), if_pos (by omega), rd_IE l i hp]) (Ev.bind (ih _ (List.getElem_mem hp)) ?_)
    have hlen := preE_len l[i]
    refine Ev.ite_pos (by rw [hlen]; omega) ?_
    have hw : wrap64 ((i : Int) + 1) = ((i + 1 : Nat) : Int) := by rw [wrap_ok (by omega) (by omega)]; omega
    rw [preEs_drop l i hp, ← List.append_assoc]
    refine Ev.congr (fun k => by rw [hw]) (ihd (i + 1) (acc ++ preE l[i]) (by omega) ?_)
    rw [List.length_append, hlen]
    omega
theorem exps_ev : ∀ (n : Nat) (x : S29), SizeOf.sizeOf x < n → nE x < 1099511627776 → Ev (fun k => spec_l02Exps.f k x.f0 x.f1 x.f2 x.f3 x.f4) (preE x)
  | 0, x, h, _ => absurd h (Nat.not_lt_zero _)
  | n + 1, x, h, hN => by
    rw [nE_eq] at hN
    have h0 := exps_loop x.f4 x.f0 x.f1 x.f2 x.f3 (by omega) (fun y hy => exps_ev n y (by have := kid_lt hy; omega) (by have := nEs_mem hy; omega)) x.f4.length 0 [x] (by omega) (by rw [List.drop_zero, List.length_singleton]; omega)
    rw [List.drop_zero] at h0
    rw [preE_eq]
    refine Ev.step (fun k => ?_) h0
    rw [spec_l02Exps.f]
    cases x
    rfl
theorem exps_f (x : S29) (h : nE x < 1099511627776) : Ev (fun k => spec_l02Exps.f k x.f0 x.f1 x.f2 x.f3 x.f4) (preE x) := exps_ev _ x (Nat.lt_succ_self _) h
end Go.Proofs.Ytjcggilkfofiaaa.Ex
namespace Go.Proofs.Ytjcggilkfofiaaa.Ex
open Go.RowKit Go.Proofs.Ytjcggilkfofiaaa.P Go.Proofs.YtjcggilkfofiaaaW.PrintWords Go.Proofs.YtjcggilkfofiaaaW.PrintLast Go.Proofs.Ytjcggilkfofiaaa.Aux
set_option linter.unusedVariables false
set_option linter.unusedSimpArgs false
theorem wrapS (i : Nat) (h : i < 4611686018427387904) : wrap64 ((i : Int) + 1) = ((i + 1 : Nat) : Int) := by rw [wrap_ok (by omega) (by omega)]; omega
theorem preSs_drop (l : List S62) (i : Nat) (h : i < l.length) : preSs (l.drop i) = preS l[i] ++ preSs (l.drop (i + 1)) := by
  rw [List.drop_eq_getElem_cons h, preSs]
theorem nSs_drop (l : List S62) (i : Nat) (h : i < l.length) : nSs (l.drop i) = nS l[i] + nSs (l.drop (i + 1)) := by
  rw [List.drop_eq_getElem_cons h, nSs]
mutual
theorem preS_le : ∀ x : S62, (preS x).length ≤ nS x
  | ⟨a, b, c, es, p, q⟩ => by rw [preS, nS, List.length_cons, List.length_append]; have := preSs_le p; have := preSs_le q; omega
theorem preSs_le : ∀ l : List S62, (preSs l).length ≤ nSs l
  | [] => by rw [preSs, nSs]; exact Nat.le_refl _
  | x :: xs => by rw [preSs, nSs, List.length_append]; have := preS_le x; have := preSs_le xs; omega
end
theorem stmts_loop (l : List S62) (hN : nSs l < 1099511627776) (ih4 : ∀ x ∈ l, Ev (fun k => spec_l02Stmts.f k x.f4) (preSs x.f4)) (ih5 : ∀ x ∈ l, Ev (fun k => spec_l02Stmts.f k x.f5) (preSs x.f5)) (d : Nat) : ∀ (i : Nat) (acc : List S62), i + d = l.length → acc.length + nSs (l.drop i) < 1099511627776 → Ev (fun k => spec_l02Stmts.l0 k l acc (i : Int)) (acc ++ preSs (l.drop i)) := by
  have hll := nSs_len l
  induction d with
  | zero =>
    intro i acc hi hn
    refine Ev.step (f := fun _ => some acc) (fun k => by rw [spec_l02Stmts.l0, if_neg (by omega)]) ?_
    rw [List.drop_eq_nil_of_le (by omega), preSs, List.append_nil]
    exact Ev.now _
  | succ d ihd =>
    intro i acc hi hn
    have hp : i < l.length := by omega
    rw [nSs_drop l i hp] at hn
    have hns := nS_eq l[i]
    have e4 := preSs_le l[i].f4
    have e5 := preSs_le l[i].f5
    have heta : (⟨l[i].f0, l[i].f1, l[i].f2, l[i].f3, l[i].f4, l[i].f5⟩ : S62) = l[i] := by cases l[i]; rfl
    refine Ev.step (fun k => by rw [spec_l02Stmts.l0, if_pos (by omega), if_pos (by omega), rd_IS l i hp, if_pos (by omega), Option.bind_some]) ?_
    refine Ev.bind (ih4 _ (List.getElem_mem hp)) ?_
    refine Ev.ite_pos (by rw [List.length_append, List.length_singleton]; omega) ?_
    simp only [Option.bind_some]
    refine Ev.bind (ih5 _ (List.getElem_mem hp)) ?_
    refine Ev.ite_pos (by rw [List.length_append, List.length_append, List.length_singleton]; omega) ?_
    rw [preSs_drop l i hp]
    have hpre : preS l[i] = l[i] :: (preSs l[i].f4 ++ preSs l[i].f5) := preS_eq _
    have key := ihd (i + 1) (acc ++ preS l[i]) (by omega) (by rw [List.length_append]; have := preS_le l[i]; omega)
    rw [hpre] at key ⊢
    rw [← List.append_assoc]
    refine Ev.congr (fun k => ?_) key
    rw [wrapS i (by omega)]
    rw [heta]
    simp only [List.append_assoc, List.cons_append, List.nil_append, List.singleton_append]
theorem stmts_ev : ∀ (n : Nat) (l : List S62), (∀ x ∈ l, SizeOf.sizeOf x < n) → nSs l < 1099511627776 → Ev (fun k => spec_l02Stmts.f k l) (preSs l) := by
  intro n
  induction n using Nat.strongRecOn with
  | ind n ih =>
    intro l h hN
    have h0 := stmts_loop l hN (fun y hy => ih _ (h y hy) y.f4 (fun z hz => kidS4_lt hz) (by have := nSs_mem hy; have := nS_eq y; omega)) (fun y hy => ih _ (h y hy) y.f5 (fun z hz => kidS5_lt hz) (by have := nSs_mem hy; have := nS_eq y; omega)) l.length 0 [] (by omega) (by rw [List.drop_zero]; simpa using hN)
    rw [List.drop_zero, List.nil_append] at h0
    exact Ev.step (fun k => by rw [spec_l02Stmts.f]; rfl) h0
theorem stmts_f (l : List S62) (h : nSs l < 1099511627776) : Ev (fun k => spec_l02Stmts.f k l) (preSs l) := stmts_ev (SizeOf.sizeOf l + 1) l (fun x hx => by have := List.sizeOf_lt_of_mem hx; omega) h
/-- All expressions of statements. -/
def allE : List S62 → List S29
  | [] => []
  | x :: xs => preEs x.f3 ++ allE xs
theorem allE_drop (l : List S62) (i : Nat) (h : i < l.length) : allE (l.drop i) = preEs l[i].f3 ++ allE (l.drop (i + 1)) := by
  rw [List.drop_eq_getElem_cons h, allE]
theorem len_sumW : ∀ l : List S62, l.length + (allE l).length = sumW l
  | [] => rfl
  | x :: xs => by rw [allE, sumW, List.length_append, preEs_len, List.length_cons, ← len_sumW xs]; unfold wS; omega
theorem all_loop (l : List S62) (hl : l.length < 1099511627776) (hN : (allE l).length < 1099511627776) (d : Nat) : ∀ (i : Nat) (acc : List S29), i + d = l.length → acc.length + (allE (l.drop i)).length < 1099511627776 → Ev (fun k => spec_l02All.l0 k acc l (i : Int)) (acc ++ allE (l.drop i)) := by
  induction d with
  | zero =>
    intro i acc hi hn
    refine Ev.step (f := fun _ => some acc) (fun k => by rw [spec_l02All.l0, if_neg (by omega)]) ?_
    rw [List.drop_eq_nil_of_le (by omega), allE, List.append_nil]
    exact Ev.now _
  | succ d ihd =>
    intro i acc hi hn
    have hp : i < l.length := by omega
    rw [allE_drop l i hp, List.length_append, preEs_len] at hn
    have hlk := nEs_len l[i].f3
    rw [allE_drop l i hp, ← List.append_assoc]
    refine Ev.step (fun k => by rw [spec_l02All.l0, if_pos (by omega)]) ?_
    have inner : ∀ (e j : Nat) (acc2 : List S29), j + e = l[i].f3.length → acc2.length + nEs (l[i].f3.drop j) + (allE (l.drop (i + 1))).length < 1099511627776 → Ev (fun k => spec_l02All.l1 k acc2 l (i : Int) (j : Int)) (acc2 ++ preEs (l[i].f3.drop j) ++ allE (l.drop (i + 1))) := by
      intro e
      induction e with
      | zero =>
        intro j acc2 hj hn2
        refine Ev.step (fun k => by rw [spec_l02All.l1, if_pos (by omega), if_pos (by omega), rd_IS l i hp, if_neg (by omega), wrapS i (by omega)]) ?_
        rw [List.drop_eq_nil_of_le (by omega), preEs, List.append_nil]
        exact ihd (i + 1) acc2 (by omega) (by omega)
      | succ e ihe =>
        intro j acc2 hj hn2
        have hjp : j < l[i].f3.length := by omega
        rw [nEs_drop _ j hjp] at hn2
        have hlen := preE_len l[i].f3[j]
        refine Ev.step (fun k => by rw [spec_l02All.l1, if_pos (by omega), if_pos (by omega), rd_IS l i hp, if_pos (by omega), if_pos (by omega), rd_IE _ j hjp, wrapS j (by omega)]) ?_
        refine Ev.bind (exps_f l[i].f3[j] (by omega)) ?_
        refine Ev.ite_pos (by rw [hlen]; omega) ?_
        rw [preEs_drop _ j hjp, ← List.append_assoc]
        exact ihe (j + 1) (acc2 ++ preE l[i].f3[j]) (by omega) (by rw [List.length_append, hlen]; omega)
    have key := inner l[i].f3.length 0 acc (by omega) (by rw [List.drop_zero]; omega)
    rw [List.drop_zero] at key
    exact key
theorem all_f (zs : List Int) (p v : Int) (l : List S62) (h : nSs l < 1099511627776) : Ev (fun k => spec_l02All.f k zs p v l) (allE (preSs l)) := by
  have h1 := len_sumW (preSs l)
  rw [sumW_preSs] at h1
  have h2 := all_loop (preSs l) (by omega) (by omega) (preSs l).length 0 [] (by omega) (by rw [List.drop_zero]; simp; omega)
  rw [List.drop_zero, List.nil_append] at h2
  exact Ev.bind (stmts_f l h) h2
end Go.Proofs.Ytjcggilkfofiaaa.Ex
