/- Functions of the program and of the reference as plain functions, and that the Go code comes to their answers; several texts in one. No conditions beyond what each theorem says. -/
import Derived.Test.YtjcggilkfofiaaaDoorMShowExp0a
import Derived.ProofKit
import Derived.OpenShut
import Derived.Test.YtjcggilkfofiaaaDoorMShowExp0b
import Derived.Test.YtjcggilkfofiaaaDoorMShowExp0c
namespace Go.Proofs.YtjcggilkfofiaaaDoor.Opens
open Go.RowKit Go.Proofs.YtjcggilkfofiaaaDoorW.PrintWords Go.ChangeShapes Go.WideShapes
set_option linter.unusedVariables false
section
variable {H : Type} (enc : TypeId × Value → H) (P : Program) (w : World)
/-- What is read as_ data of type t is of kind k, and its value has the property q: at fuel n. -/
def OpensN (n : Nat) {α : Type} (t : TypeId) (k : Kd α) (q : α → Prop) : Prop :=
  ∀ (cs : List Value) (x : DataW H × List MemPlace), DataW.trod enc P w 0 (fun _ => true) true n t cs = some x → ∃ a, k.K w a cs ∧ q a
/-- The same of fields, from a place among the cells on. -/
def OpensF (n : Nat) {α : Type} (fs : List Field) (off total : Nat) (k : Kd α) (q : α → Prop) : Prop :=
  ∀ cs : List Value, cs.length = total → (∀ f, f ∈ fs → ∃ x, DataW.trod enc P w 0 (fun _ => true) true n f.type ((cs.drop f.offset).take (P.cellsOf f.type)) = some x) → ∃ a, k.K w a (cs.drop off) ∧ q a
variable {enc P w}
theorem opens_none {α : Type} {t : TypeId} {k : Kd α} {q : α → Prop} : OpensN enc P w 0 t k q := fun cs x h => by simp [DataW.trod] at h
theorem opens_int {n : Nat} {t : TypeId} {k : IntKind} (ht : P.underlying t = some (.int k)) : OpensN enc P w n t (Kd.int k) (fun i => (Lit.int k i).wf = true) := by
  intro cs x h
  obtain ⟨i, rfl, _, hw⟩ := DataW.trod_int ht h
  exact ⟨i, rfl, hw⟩
theorem opens_string {n : Nat} {t : TypeId} (ht : P.underlying t = some .string) : OpensN enc P w n t Kd.string (fun s => s.size ≤ maxLen) := by
  intro cs x h
  obtain ⟨s, rfl, _, hw⟩ := DataW.trod_string ht h
  exact ⟨s, rfl, hw⟩
theorem opensF_one {n : Nat} {α : Type} {f : Field} {k : Kd α} {q : α → Prop} {off total : Nat} (ho : f.offset = off) (ht : off + P.cellsOf f.type = total) (h : OpensN enc P w n f.type k q) : OpensF enc P w n [f] off total k q := by
  intro cs hl hx
  obtain ⟨x, hx⟩ := hx f (List.mem_singleton.2 rfl)
  rw [ho, List.take_of_length_le (by rw [List.length_drop]; omega)] at hx
  exact h _ x hx
theorem opensF_cons {n : Nat} {α β : Type} {f : Field} {fs : List Field} {k : Kd α} {k' : Kd β} {q : α → Prop} {q' : β → Prop} {off off' total : Nat} (ho : f.offset = off) (ho' : off + P.cellsOf f.type = off') (h : OpensN enc P w n f.type k q)
    (h' : OpensF enc P w n fs off' total k' q') : OpensF enc P w n (f :: fs) off total (Kd.pair k k') (fun p => q p.1 ∧ q' p.2) := by
  intro cs hl hx
  obtain ⟨x, hx0⟩ := hx f List.mem_cons_self
  rw [ho] at hx0
  obtain ⟨a, ha, hqa⟩ := h _ x hx0
  obtain ⟨b, hb, hqb⟩ := h' cs hl (fun g hg => hx g (List.mem_cons_of_mem _ hg))
  refine ⟨(a, b), ⟨_, _, ?_, ha, hb⟩, hqa, hqb⟩
  rw [← ho', ← List.drop_drop, List.take_append_drop]
theorem opens_fields {n : Nat} {α : Type} {t : TypeId} {fs : Array Field} {k : Kd α} {q : α → Prop} {total : Nat} (ht : P.underlying t = some (.struct fs)) (hc : P.cellsOf t = total)
    (h : OpensF enc P w n fs.toList 0 total k q) : OpensN enc P w (n + 1) t k q := by
  intro cs x hx
  obtain ⟨xs, m, hm, _, hl, hs, hget⟩ := DataW.trod_struct ht hx
  obtain rfl : n = m := by omega
  obtain ⟨a, ha, hq⟩ := h cs (by omega) (fun fd hfd => by
    obtain ⟨i, hi⟩ := List.getElem?_of_mem hfd
    have hi' : fs[i]? = some fd := by simpa using hi
    have hlt : i < xs.length := by rw [hs]; exact (Array.getElem?_eq_some_iff.1 hi').1
    exact ⟨xs[i], by rw [hget i fd hi']; simp [hlt]⟩)
  rw [List.drop_zero] at ha
  exact ⟨a, ha, hq⟩
/-- From data read element by element to a row. -/
theorem opens_row {n : Nat} {α : Type} {e : TypeId} {k : Kd α} {q : α → Prop} (hsz : P.cellsOf e = k.sz) (h : OpensN enc P w n e k q) (a : Addr) (len : Nat) (hm : len ≤ maxLen) (elems : List (DataW H × List MemPlace)) (hl : elems.length = len)
    (hget : ∀ i, i < len → (w.cells? 0 (a.add (i * P.cellsOf e)) (P.cellsOf e)).bind (DataW.trod enc P w 0 (fun _ => true) true n e) = elems[i]?) :
    ∃ xs : List α, xs.length = len ∧ k.C w (some a) xs.length xs ∧ ∀ x ∈ xs, q x := by
  have hex : ∀ i : Fin len, ∃ (x : α) (c : List Value), c.length = k.sz ∧ k.K w x c ∧ q x ∧ ∀ j u, c[j]? = some u → w.cell? (a.add (i.val * k.sz + j)) = some u := by
    intro i
    have hi := hget i.val i.isLt
    rw [List.getElem?_eq_getElem (by omega)] at hi
    obtain ⟨c, hc, hd⟩ := Option.bind_eq_some_iff.1 hi
    obtain ⟨x, hx, hqx⟩ := h c _ hd
    refine ⟨x, c, k.K_len hx, hx, hqx, fun j u hj => ?_⟩
    have hcell := (World.cells?_some hc).2.2 j (by rw [hsz, ← k.K_len hx]; exact (List.getElem?_eq_some_iff.1 hj).1)
    have ha : (a.add (i.val * k.sz)).add j = a.add (i.val * k.sz + j) := by
      unfold Addr.add
      by_cases h1 : i.val * k.sz = 0 <;> by_cases h2 : j = 0 <;> simp [h1, h2, Nat.add_assoc]
    rw [← ha, ← hsz]
    exact hcell.trans hj
  refine ⟨List.ofFn fun i => (hex i).choose, by simp, ⟨by simp, by simpa [maxLen] using hm, fun _ => ⟨a, rfl, fun j p hj => ?_⟩⟩, fun x hx => ?_⟩
  · rw [List.getElem?_ofFn] at hj
    split at hj
    · rename_i hlt
      obtain rfl := Option.some.inj hj
      obtain ⟨c, h1, h2, _, h4⟩ := (hex ⟨j, hlt⟩).choose_spec
      exact ⟨c, h1, h2, h4⟩
    · cases hj
  · obtain ⟨i, rfl⟩ := List.mem_ofFn.1 hx
    obtain ⟨c, _, _, h3, _⟩ := (hex i).choose_spec
    exact h3
/-- A slice's length is at most maxLen, and its elements have the property. -/
theorem opens_slice {n : Nat} {α : Type} {t e : TypeId} {k : Kd α} {q : α → Prop} (ht : P.underlying t = some (.slice e)) (hsz : P.cellsOf e = k.sz) (h : OpensN enc P w n e k q) :
    OpensN enc P w (n + 1) t (Kd.slice e k) (fun xs => xs.length ≤ maxLen ∧ ∀ x ∈ xs, q x) := by
  intro cs x hx
  rcases DataW.trod_slice ht hx with ⟨rfl, _⟩ | ⟨a, len, cap, elems, rest, m, hm, rfl, _, _, hl, hc, he, hget, _⟩
  · exact ⟨[], ⟨none, 0, rfl, Nat.le_refl _, Kd.C_nil k w⟩, by simp, fun x hx => by cases hx⟩
  · obtain rfl : n = m := by omega
    obtain ⟨xs, hxl, hC, hq⟩ := opens_row hsz h a len (by omega) elems he hget
    exact ⟨xs, ⟨some a, cap, by rw [hxl], by omega, hC⟩, by omega, hq⟩
/-- For every fuel, out of one step more than every fuel. -/
theorem opens_up {α : Type} {t : TypeId} {k : Kd α} {q : α → Prop} (h : ∀ n, OpensN enc P w (n + 1) t k q) : ∀ n, OpensN enc P w n t k q
  | 0 => opens_none
  | n + 1 => h n
/-- A struct that came in by value. -/
theorem open_agg {r : Reach} {b0 : Nat} {α : Type} {t : TypeId} {fs : Array Field} {k : Kd α} {q : α → Prop} {v : Value} {d : DataW H} {p : List MemPlace} (ht : P.underlying t = some (.struct fs)) (ho : ∀ n, OpensN enc P w n t k q)
    (hv : Value.okWide P w r b0 t v) (h : DataW.Trod enc P w 0 (fun _ => true) true t v d p) : ∃ a cs, v = .agg (List.toArray cs) ∧ k.K w a cs ∧ q a := by
  obtain ⟨cs, rfl, _⟩ := okWide_struct ht hv
  obtain ⟨fuel, hf⟩ := h
  obtain ⟨a, ha, hq⟩ := ho fuel _ _ hf
  exact ⟨a, cs.toList, by simp, by simpa [Value.cells] using ha, hq⟩
end
end Go.Proofs.YtjcggilkfofiaaaDoor.Opens
namespace Go.Proofs.YtjcggilkfofiaaaDoor.Opens
open Go.RowKit Go.Proofs.YtjcggilkfofiaaaDoorW.PrintWords Go.Proofs.YtjcggilkfofiaaaDoor.P
set_option linter.unusedVariables false
mutual
def W28 : S28 → Prop
  | ⟨x0, x1, x2, x3, x4⟩ => (Lit.int .i64 x0).wf = true ∧ (Lit.int .i64 x1).wf = true ∧ (Lit.int .i64 x2).wf = true ∧ x3.size ≤ maxLen ∧ (x4.length ≤ maxLen ∧ W28s x4)
def W28s : List S28 → Prop
  | [] => True
  | x :: xs => W28 x ∧ W28s xs
end
theorem W28s_iff : ∀ l : List S28, W28s l ↔ ∀ x ∈ l, W28 x
  | [] => by rw [W28s]; simp
  | x :: xs => by rw [W28s, W28s_iff xs]; simp
theorem W28_eq (x : S28) : W28 x ↔ (Lit.int .i64 x.f0).wf = true ∧ (Lit.int .i64 x.f1).wf = true ∧ (Lit.int .i64 x.f2).wf = true ∧ x.f3.size ≤ maxLen ∧ (x.f4.length ≤ maxLen ∧ ∀ x_ ∈ x.f4, W28 x_) := by
  cases x
  rw [W28]
  simp only [W28s_iff]
theorem open28 {H : Type} {enc : TypeId × Value → H} {w : World} (n : Nat) : OpensN enc Tryd.prog w n 28 k28 W28 := by
  induction n using Nat.strongRecOn with
  | ind n ih =>
    cases n with
    | zero => exact opens_none
    | succ n =>
      have hs4 : OpensN enc Tryd.prog w n 26 (Kd.slice 28 k28) (fun xs => xs.length ≤ maxLen ∧ ∀ x ∈ xs, W28 x) := by
        cases n with
        | zero => exact opens_none
        | succ m => exact opens_slice Tryd.underlying26 (by kernel_rfl) (ih m (by omega))
      intro cs x hx
      obtain ⟨⟨x0, x1, x2, x3, x4⟩, hK, hq⟩ := opens_fields (total := 5) Tryd.underlying28 (by kernel_rfl) (opensF_cons (off := 0) (off' := 1) rfl (by kernel_rfl) (opens_int Tryd.underlying3) (opensF_cons (off := 1) (off' := 2) rfl (by kernel_rfl) (opens_int Tryd.underlying3) (opensF_cons (off := 2) (off' := 3) rfl (by kernel_rfl) (opens_int Tryd.underlying3) (opensF_cons (off := 3) (off' := 4) rfl (by kernel_rfl) (opens_string Tryd.underlying9) (opensF_one (off := 4) (total := 5) rfl (by kernel_rfl) (hs4)))))) cs x hx
      obtain ⟨_, _, rfl, rfl, ⟨_, _, rfl, rfl, ⟨_, _, rfl, rfl, ⟨_, _, rfl, rfl, ⟨A4, c4, rfl, hc4, hC4⟩⟩⟩⟩⟩ := hK
      exact ⟨⟨x0, x1, x2, x3, x4⟩, k28_mk w ⟨x0, x1, x2, x3, x4⟩ hc4 hC4, (W28_eq _).2 hq⟩
mutual
def W57 : S57 → Prop
  | ⟨x0, x1, x2, x3, x4, x5⟩ => (Lit.int .i64 x0).wf = true ∧ (Lit.int .i64 x1).wf = true ∧ (Lit.int .i64 x2).wf = true ∧ (x3.length ≤ maxLen ∧ ∀ x_ ∈ x3, W28 x_) ∧ (x4.length ≤ maxLen ∧ W57s x4) ∧ (x5.length ≤ maxLen ∧ W57s x5)
def W57s : List S57 → Prop
  | [] => True
  | x :: xs => W57 x ∧ W57s xs
end
theorem W57s_iff : ∀ l : List S57, W57s l ↔ ∀ x ∈ l, W57 x
  | [] => by rw [W57s]; simp
  | x :: xs => by rw [W57s, W57s_iff xs]; simp
theorem W57_eq (x : S57) : W57 x ↔ (Lit.int .i64 x.f0).wf = true ∧ (Lit.int .i64 x.f1).wf = true ∧ (Lit.int .i64 x.f2).wf = true ∧ (x.f3.length ≤ maxLen ∧ ∀ x_ ∈ x.f3, W28 x_) ∧ (x.f4.length ≤ maxLen ∧ ∀ x_ ∈ x.f4, W57 x_) ∧ (x.f5.length ≤ maxLen ∧ ∀ x_ ∈ x.f5, W57 x_) := by
  cases x
  rw [W57]
  simp only [W57s_iff]
theorem open57 {H : Type} {enc : TypeId × Value → H} {w : World} (n : Nat) : OpensN enc Tryd.prog w n 57 k57 W57 := by
  induction n using Nat.strongRecOn with
  | ind n ih =>
    cases n with
    | zero => exact opens_none
    | succ n =>
      have hs4 : OpensN enc Tryd.prog w n 23 (Kd.slice 57 k57) (fun xs => xs.length ≤ maxLen ∧ ∀ x ∈ xs, W57 x) := by
        cases n with
        | zero => exact opens_none
        | succ m => exact opens_slice Tryd.underlying23 (by kernel_rfl) (ih m (by omega))
      have hs5 : OpensN enc Tryd.prog w n 23 (Kd.slice 57 k57) (fun xs => xs.length ≤ maxLen ∧ ∀ x ∈ xs, W57 x) := by
        cases n with
        | zero => exact opens_none
        | succ m => exact opens_slice Tryd.underlying23 (by kernel_rfl) (ih m (by omega))
      intro cs x hx
      obtain ⟨⟨x0, x1, x2, x3, x4, x5⟩, hK, hq⟩ := opens_fields (total := 6) Tryd.underlying57 (by kernel_rfl) (opensF_cons (off := 0) (off' := 1) rfl (by kernel_rfl) (opens_int Tryd.underlying3) (opensF_cons (off := 1) (off' := 2) rfl (by kernel_rfl) (opens_int Tryd.underlying3) (opensF_cons (off := 2) (off' := 3) rfl (by kernel_rfl) (opens_int Tryd.underlying3) (opensF_cons (off := 3) (off' := 4) rfl (by kernel_rfl) (opens_up (fun n => opens_slice Tryd.underlying26 (by kernel_rfl) (open28 n)) n) (opensF_cons (off := 4) (off' := 5) rfl (by kernel_rfl) (hs4) (opensF_one (off := 5) (total := 6) rfl (by kernel_rfl) (hs5))))))) cs x hx
      obtain ⟨_, _, rfl, rfl, ⟨_, _, rfl, rfl, ⟨_, _, rfl, rfl, ⟨_, _, rfl, ⟨A3, c3, rfl, hc3, hC3⟩, ⟨_, _, rfl, ⟨A4, c4, rfl, hc4, hC4⟩, ⟨A5, c5, rfl, hc5, hC5⟩⟩⟩⟩⟩⟩ := hK
      exact ⟨⟨x0, x1, x2, x3, x4, x5⟩, k57_mk w ⟨x0, x1, x2, x3, x4, x5⟩ hc3 hC3 hc4 hC4 hc5 hC5, (W57_eq _).2 hq⟩
end Go.Proofs.YtjcggilkfofiaaaDoor.Opens
namespace Go.Proofs.YtjcggilkfofiaaaDoor.Ex
open Go.RowKit Go.Proofs.YtjcggilkfofiaaaDoor.P Go.Proofs.YtjcggilkfofiaaaDoorW.PrintWords Go.Proofs.YtjcggilkfofiaaaDoorW.PrintLast Go.Proofs.YtjcggilkfofiaaaDoor.Aux Go.Proofs.YtjcggilkfofiaaaDoor.Opens
set_option linter.unusedVariables false
set_option linter.unusedSimpArgs false
mutual
theorem ok_W : ∀ x : S28, W28 x → okE x
  | ⟨a, b, c, s, ks⟩, h => by
    rw [W28] at h
    rw [okE]
    exact ⟨h.2.2.2.1, h.2.2.2.2.1, ok_Ws ks h.2.2.2.2.2⟩
theorem ok_Ws : ∀ l : List S28, W28s l → okEs l
  | [], _ => by rw [okEs]; trivial
  | x :: xs, h => by
    rw [W28s] at h
    rw [okEs]
    exact ⟨ok_W x h.1, ok_Ws xs h.2⟩
end
theorem sz_f {a b c : Int} {s : ByteArray} {l : List S28} (hs : s.size ≤ maxLen) (hl : l.length ≤ maxLen ∧ ∀ x_ ∈ l, W28 x_) {left : Int} (h0 : 0 ≤ left) (h1 : left ≤ 1048576) : laws_szExp.f a b c s l left = some (lftE left (szE ⟨a, b, c, s, l⟩)) := by
  have hk : okB ⟨a, b, c, s, l⟩ = true := (okB_iff _).2 ((okE_eq _).2 ⟨hs, hl.1, ok_Ws l ((W28s_iff l).2 hl.2)⟩)
  rw [laws_szExp.f, if_pos ⟨hk, h0, h1⟩]
theorem to_f {a b c : Int} {s : ByteArray} {l : List S28} (h : szE ⟨a, b, c, s, l⟩ ≤ 1048576) : laws_toExp.f a b c s l = some (a, b, c, s, toEs l) := by
  rw [szE_eq] at h
  dsimp only at h
  rw [laws_toExp.f, if_pos (by omega)]
theorem eq_f {a b c : Int} {s : ByteArray} {l : List S28} (h : szE ⟨a, b, c, s, l⟩ ≤ 1048576) : laws_eqExp.f a b c s (toEs l) a b c s (toEs l) = some true := by
  rw [szE_eq] at h
  dsimp only at h
  have := nEs_toEs l
  rw [laws_eqExp.f, if_pos (by omega), eqE_refl]
end Go.Proofs.YtjcggilkfofiaaaDoor.Ex
namespace Go.Proofs.YtjcggilkfofiaaaDoor.Ex
open Go.RowKit Go.Proofs.YtjcggilkfofiaaaDoor.P Go.Proofs.YtjcggilkfofiaaaDoorW.PrintWords Go.Proofs.YtjcggilkfofiaaaDoorW.PrintLast Go.Proofs.YtjcggilkfofiaaaDoor.Aux Go.Proofs.YtjcggilkfofiaaaDoor.Opens
set_option linter.unusedVariables false
set_option linter.unusedSimpArgs false
mutual
theorem okS_W : ∀ x : S57, W57 x → okS x
  | ⟨a, b, c, es, p, q⟩, h => by
    rw [W57] at h
    rw [okS]
    exact ⟨⟨h.2.2.2.1.1, ok_Ws es ((W28s_iff es).2 h.2.2.2.1.2)⟩, ⟨h.2.2.2.2.1.1, okS_Ws p h.2.2.2.2.1.2⟩, ⟨h.2.2.2.2.2.1, okS_Ws q h.2.2.2.2.2.2⟩⟩
theorem okS_Ws : ∀ l : List S57, W57s l → okSs l
  | [], _ => by rw [okSs]; trivial
  | x :: xs, h => by
    rw [W57s] at h
    rw [okSs]
    exact ⟨okS_W x h.1, okS_Ws xs h.2⟩
end
/-- How great a program is. -/
def szP (zs : List Int) (b : List S57) : Nat := zs.length + szSs b
theorem szP_f {zs : List Int} {p v : Int} {b : List S57} (hz : zs.length ≤ maxLen) (hb : b.length ≤ maxLen ∧ ∀ x_ ∈ b, W57 x_) {left : Int} (h0 : 0 ≤ left) (h1 : left ≤ 1048576) : laws_szProgram.f zs p v b left = some (lftE left (szP zs b)) := by
  have hz2 := hz
  unfold maxLen at hz2
  have hk : okSBs b = true := (okSBs_iff _).2 (okS_Ws b ((W57s_iff b).2 hb.2))
  have hw : wrap64 (left - (zs.length : Int)) = left - (zs.length : Int) := wrap_ok (by omega) (by omega)
  unfold laws_szProgram.f laws_szIntS.f szP
  rw [hw]
  by_cases h : (zs.length : Int) ≤ left
  · rw [if_neg (by omega), Option.bind_some, if_neg (by omega), laws_szStmtS.f, if_pos ⟨hk, hb.1, by omega, by omega⟩, Option.bind_some, lftE_add h]
    by_cases h2 : ((zs.length + szSs b : Nat) : Int) ≤ left
    · rw [lftE_yes h2, if_neg (by omega)]
    · rw [lftE_no h2, if_pos (by omega)]
  · rw [if_pos (by omega), Option.bind_some, if_pos (by omega), lftE_no (by omega)]
theorem toP_ev {zs : List Int} {p v : Int} {b : List S57} (h : szP zs b ≤ 1048576) : Ev (fun k => laws_toProgram.f k zs p v b) (zs, p, v, toSs b) := by
  unfold szP at h
  refine Ev.bind (copyInts_ev laws_toIntS.f laws_toIntS.l0 (fun _ _ => rfl) (fun _ _ _ _ => rfl) zs (by omega)) ?_
  refine Ev.const (a := toSs b) (by rw [laws_toStmtS.f, if_pos (by omega)]) (Ev.now _)
theorem eqP_ev {zs : List Int} {p v : Int} {b : List S57} (h : szP zs b ≤ 1048576) : Ev (fun k => laws_eqProgram.f k zs p v (toSs b) zs p v (toSs b)) true := by
  unfold szP at h
  have hi := eqInts_ev laws_eqIntS.f laws_eqIntS.l0 (fun _ _ _ => rfl) (fun _ _ _ _ => rfl) zs zs (by omega)
  rw [decide_eq_true rfl] at hi
  have hn := nSs_toSs b
  refine Ev.bind hi (Ev.ite_pos rfl (Ev.ite_pos rfl (Ev.ite_pos rfl ?_)))
  exact Ev.const (a := true) (by rw [laws_eqStmtS.f, if_pos (by omega), eqSs_refl]) (Ev.ite_pos rfl (Ev.now _))
end Go.Proofs.YtjcggilkfofiaaaDoor.Ex
