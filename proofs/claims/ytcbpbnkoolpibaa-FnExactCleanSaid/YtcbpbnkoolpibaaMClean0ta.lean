/- Functions of the program and of the reference as plain functions, and that the Go code comes to their answers; several texts in one. No conditions beyond what each theorem says. -/
import Derived.Test.YtcbpbnkoolpibaaMClean0a
import Derived.ProofKit
import Derived.OpenShut
import Derived.Test.YtcbpbnkoolpibaaMClean0b
import Derived.Test.YtcbpbnkoolpibaaMClean0c
set_option linter.unusedVariables false
set_option linter.unusedSimpArgs false
namespace Go.Proofs.Ytcbpbnkoolpibaa.Opens
open RowKit YtcbpbnkoolpibaaW.wA ChangeShapes WideShapes
section
variable {H : Type} (enc : TypeId × Value → H) (P : Program) (w : World)
def OpensN (n : Nat) {α : Type} (t : TypeId) (k : Kd α) (q : α → Prop) : Prop :=
  ∀ (cs : List Value) (x : DataW H × List MemPlace), DataW.trod enc P w 0 (fun _ => true) true n t cs = some x → ∃ a, k.K w a cs ∧ q a
def OpensF (n : Nat) {α : Type} (fs : List Field) (off total : Nat) (k : Kd α) (q : α → Prop) : Prop :=
  ∀ cs : List Value, cs.length = total → (∀ f, f ∈ fs → ∃ x, DataW.trod enc P w 0 (fun _ => true) true n f.type ((cs.drop f.offset).take (P.cellsOf f.type)) = some x) → ∃ a, k.K w a (cs.drop off) ∧ q a
variable {enc P w}
theorem opens_none {α : Type} {t : TypeId} {k : Kd α} {q : α → Prop} : OpensN enc P w 0 t k q := fun cs x h => by simp [DataW.trod] at h
theorem opens_int {n : Nat} {t : TypeId} {k : IntKind} (ht : P.underlying t = some (.int k)) : OpensN enc P w n t (Kd.int k) (fun i => (Lit.int k i).wf = true) := by
  intro cs x h
  obtain ⟨i, rfl, _, hw⟩ := DataW.trod_int ht h
  exact ⟨i, rfl, hw⟩
theorem opens_string {n : Nat} {t : TypeId} (ht : P.underlying t = some .string) : OpensN enc P w n t Kd.string (fun s => s.size ≤ maxLen) := by
  intro cs x h
  obtain ⟨s, rfl, _, hw⟩ := DataW.trod_string ht h
  exact ⟨s, rfl, hw⟩
theorem opensF_one {n : Nat} {α : Type} {f : Field} {k : Kd α} {q : α → Prop} {off total : Nat} (ho : f.offset = off) (ht : off + P.cellsOf f.type = total) (h : OpensN enc P w n f.type k q) : OpensF enc P w n [f] off total k q := by
  intro cs hl hx
  obtain ⟨x, hx⟩ := hx f (List.mem_singleton.2 rfl)
  rw [ho, List.take_of_length_le (by rw [List.length_drop]; omega)] at hx
  exact h _ x hx
theorem opensF_cons {n : Nat} {α β : Type} {f : Field} {fs : List Field} {k : Kd α} {k' : Kd β} {q : α → Prop} {q' : β → Prop} {off off' total : Nat} (ho : f.offset = off) (ho' : off + P.cellsOf f.type = off') (h : OpensN enc P w n f.type k q)
    (h' : OpensF enc P w n fs off' total k' q') : OpensF enc P w n (f :: fs) off total (Kd.pair k k') (fun p => q p.1 ∧ q' p.2) := by
  intro cs hl hx
  obtain ⟨x, hx0⟩ := hx f List.mem_cons_self
  rw [ho] at hx0
  obtain ⟨a, ha, hqa⟩ := h _ x hx0
  obtain ⟨b, hb, hqb⟩ := h' cs hl (fun g hg => hx g (List.mem_cons_of_mem _ hg))
  refine ⟨(a, b), ⟨_, _, ?_, ha, hb⟩, hqa, hqb⟩
  rw [← ho', ← List.drop_drop, List.take_append_drop]
theorem opens_fields {n : Nat} {α : Type} {t : TypeId} {fs : Array Field} {k : Kd α} {q : α → Prop} {total : Nat} (ht : P.underlying t = some (.struct fs)) (hc : P.cellsOf t = total)
    (h : OpensF enc P w n fs.toList 0 total k q) : OpensN enc P w (n + 1) t k q := by
  intro cs x hx
  obtain ⟨xs, m, hm, _, hl, hs, hget⟩ := DataW.trod_struct ht hx
  obtain rfl : n = m := by omega
  obtain ⟨a, ha, hq⟩ := h cs (by omega) (fun fd hfd => by
    obtain ⟨i, hi⟩ := List.getElem?_of_mem hfd
    have hi' : fs[i]? = some fd := by simpa using hi
    have hlt : i < xs.length := by rw [hs]; exact (Array.getElem?_eq_some_iff.1 hi').1
    exact ⟨xs[i], by rw [hget i fd hi']; simp [hlt]⟩)
  rw [List.drop_zero] at ha
  exact ⟨a, ha, hq⟩
theorem opens_iso {n : Nat} {α β : Type} {t : TypeId} {k : Kd α} {q : α → Prop} (f : β → α) (g : α → β) (hfg : ∀ a, f (g a) = a) (h : OpensN enc P w n t k q) : OpensN enc P w n t (Kd.iso k f) (fun b => q (f b)) := by
  intro cs x hx
  obtain ⟨a, ha, hq⟩ := h cs x hx
  exact ⟨g a, by show k.K w (f (g a)) cs; rw [hfg]; exact ha, by show q (f (g a)); rw [hfg]; exact hq⟩
theorem opens_row {n : Nat} {α : Type} {e : TypeId} {k : Kd α} {q : α → Prop} (hsz : P.cellsOf e = k.sz) (h : OpensN enc P w n e k q) (a : Addr) (len : Nat) (hm : len ≤ maxLen) (elems : List (DataW H × List MemPlace)) (hl : elems.length = len)
    (hget : ∀ i, i < len → (w.cells? 0 (a.add (i * P.cellsOf e)) (P.cellsOf e)).bind (DataW.trod enc P w 0 (fun _ => true) true n e) = elems[i]?) :
    ∃ xs : List α, xs.length = len ∧ k.C w (some a) xs.length xs ∧ ∀ x ∈ xs, q x := by
  have hex : ∀ i : Fin len, ∃ (x : α) (c : List Value), c.length = k.sz ∧ k.K w x c ∧ q x ∧ ∀ j u, c[j]? = some u → w.cell? (a.add (i.val * k.sz + j)) = some u := by
    intro i
    have hi := hget i.val i.isLt
    rw [List.getElem?_eq_getElem (by omega)] at hi
    obtain ⟨c, hc, hd⟩ := Option.bind_eq_some_iff.1 hi
    obtain ⟨x, hx, hqx⟩ := h c _ hd
    refine ⟨x, c, k.K_len hx, hx, hqx, fun j u hj => ?_⟩
    have hcell := (World.cells?_some hc).2.2 j (by rw [hsz, ← k.K_len hx]; exact (List.getElem?_eq_some_iff.1 hj).1)
    have ha : (a.add (i.val * k.sz)).add j = a.add (i.val * k.sz + j) := by
      unfold Addr.add
      by_cases h1 : i.val * k.sz = 0 <;> by_cases h2 : j = 0 <;> simp [h1, h2, Nat.add_assoc]
    rw [← ha, ← hsz]
    exact hcell.trans hj
  refine ⟨List.ofFn fun i => (hex i).choose, by simp, ⟨by simp, by simpa [maxLen] using hm, fun _ => ⟨a, rfl, fun j p hj => ?_⟩⟩, fun x hx => ?_⟩
  · rw [List.getElem?_ofFn] at hj
    split at hj
    · rename_i hlt
      obtain rfl := Option.some.inj hj
      obtain ⟨c, h1, h2, _, h4⟩ := (hex ⟨j, hlt⟩).choose_spec
      exact ⟨c, h1, h2, h4⟩
    · cases hj
  · obtain ⟨i, rfl⟩ := List.mem_ofFn.1 hx
    obtain ⟨c, _, _, h3, _⟩ := (hex i).choose_spec
    exact h3
theorem opens_slice {n : Nat} {α : Type} {t e : TypeId} {k : Kd α} {q : α → Prop} (ht : P.underlying t = some (.slice e)) (hsz : P.cellsOf e = k.sz) (h : OpensN enc P w n e k q) :
    OpensN enc P w (n + 1) t (Kd.slice e k) (fun xs => xs.length ≤ maxLen ∧ ∀ x ∈ xs, q x) := by
  intro cs x hx
  rcases DataW.trod_slice ht hx with ⟨rfl, _⟩ | ⟨a, len, cap, elems, rest, m, hm, rfl, _, _, hl, hc, he, hget, _⟩
  · exact ⟨[], ⟨none, 0, rfl, Nat.le_refl _, Kd.C_nil k w⟩, by simp, fun x hx => by cases hx⟩
  · obtain rfl : n = m := by omega
    obtain ⟨xs, hxl, hC, hq⟩ := opens_row hsz h a len (by omega) elems he hget
    exact ⟨xs, ⟨some a, cap, by rw [hxl], by omega, hC⟩, by omega, hq⟩
theorem opens_up {α : Type} {t : TypeId} {k : Kd α} {q : α → Prop} (h : ∀ n, OpensN enc P w (n + 1) t k q) : ∀ n, OpensN enc P w n t k q
  | 0 => opens_none
  | n + 1 => h n
theorem open_agg {r : Reach} {b0 : Nat} {α : Type} {t : TypeId} {fs : Array Field} {k : Kd α} {q : α → Prop} {v : Value} {d : DataW H} {p : List MemPlace} (ht : P.underlying t = some (.struct fs)) (ho : ∀ n, OpensN enc P w n t k q)
    (hv : Value.okWide P w r b0 t v) (h : DataW.Trod enc P w 0 (fun _ => true) true t v d p) : ∃ a cs, v = .agg (List.toArray cs) ∧ k.K w a cs ∧ q a := by
  obtain ⟨cs, rfl, _⟩ := okWide_struct ht hv
  obtain ⟨fuel, hf⟩ := h
  obtain ⟨a, ha, hq⟩ := ho fuel _ _ hf
  exact ⟨a, cs.toList, by simp, by simpa [Value.cells] using ha, hq⟩
end
end Go.Proofs.Ytcbpbnkoolpibaa.Opens
namespace Go.Proofs.Ytcbpbnkoolpibaa.Opens
open RowKit YtcbpbnkoolpibaaW.wA P
def W94 (x : S94) : Prop := (Lit.int .i64 x.f0).wf = true ∧ (Lit.int .i64 x.f1).wf = true ∧ (Lit.int .i64 x.f2).wf = true ∧ (Lit.int .i64 x.f3).wf = true ∧ (Lit.int .i64 x.f4).wf = true ∧ (Lit.int .i64 x.f5).wf = true ∧ x.f6.size ≤ maxLen
theorem open94 {H : Type} {enc : TypeId × Value → H} {w : World} : ∀ n, OpensN enc Try.prog w n 94 k94 W94 :=
  opens_up fun n => opens_iso (fun x : S94 => (x.f0, x.f1, x.f2, x.f3, x.f4, x.f5, x.f6)) (fun p => (⟨p.1, p.2.1, p.2.2.1, p.2.2.2.1, p.2.2.2.2.1, p.2.2.2.2.2.1, p.2.2.2.2.2.2⟩ : S94)) (fun _ => rfl) (opens_fields (total := 7) Try.underlying94 (by kernel_rfl) (opensF_cons (off := 0) (off' := 1) rfl (by kernel_rfl) (opens_int Try.underlying3) (opensF_cons (off := 1) (off' := 2) rfl (by kernel_rfl) (opens_int Try.underlying3) (opensF_cons (off := 2) (off' := 3) rfl (by kernel_rfl) (opens_int Try.underlying3) (opensF_cons (off := 3) (off' := 4) rfl (by kernel_rfl) (opens_int Try.underlying3) (opensF_cons (off := 4) (off' := 5) rfl (by kernel_rfl) (opens_int Try.underlying3) (opensF_cons (off := 5) (off' := 6) rfl (by kernel_rfl) (opens_int Try.underlying3) (opensF_one (off := 6) (total := 7) rfl (by kernel_rfl) (opens_string Try.underlying9)))))))))
def W67 (x : S67) : Prop := (x.f0.length ≤ maxLen ∧ ∀ x_ ∈ x.f0, W94 x_) ∧ (Lit.int .i64 x.f1).wf = true ∧ (Lit.int .i64 x.f2).wf = true ∧ (Lit.int .i64 x.f3).wf = true ∧ (Lit.int .i64 x.f4).wf = true
theorem open67 {H : Type} {enc : TypeId × Value → H} {w : World} : ∀ n, OpensN enc Try.prog w n 67 k67 W67 :=
  opens_up fun n => opens_iso (fun x : S67 => (x.f0, x.f1, x.f2, x.f3, x.f4)) (fun p => (⟨p.1, p.2.1, p.2.2.1, p.2.2.2.1, p.2.2.2.2⟩ : S67)) (fun _ => rfl) (opens_fields (total := 5) Try.underlying67 (by kernel_rfl) (opensF_cons (off := 0) (off' := 1) rfl (by kernel_rfl) (opens_up (fun n => opens_slice Try.underlying65 (by kernel_rfl) (open94 n)) n) (opensF_cons (off := 1) (off' := 2) rfl (by kernel_rfl) (opens_int Try.underlying3) (opensF_cons (off := 2) (off' := 3) rfl (by kernel_rfl) (opens_int Try.underlying3) (opensF_cons (off := 3) (off' := 4) rfl (by kernel_rfl) (opens_int Try.underlying3) (opensF_one (off := 4) (total := 5) rfl (by kernel_rfl) (opens_int Try.underlying3)))))))
end Go.Proofs.Ytcbpbnkoolpibaa.Opens
namespace Go.Proofs.Ytcbpbnkoolpibaa.Gr
open RowKit P YtcbpbnkoolpibaaW.wA YtcbpbnkoolpibaaW.wB Aux Opens
theorem rdLI (xs : List S94) (i : Nat) (h : i < xs.length) : r94 xs (i : Int) = xs[i] := by simp [r94, List.getD_eq_getElem?_getD, List.getElem?_eq_getElem h]
theorem rdII (xs : List S57) (i : Nat) (h : i < xs.length) : r57 xs (i : Int) = xs[i] := by simp [r57, List.getD_eq_getElem?_getD, List.getElem?_eq_getElem h]
theorem rdLB (xs : List S67) (i : Nat) (h : i < xs.length) : r67 xs (i : Int) = xs[i] := by simp [r67, List.getD_eq_getElem?_getD, List.getElem?_eq_getElem h]
theorem rdIB (xs : List S47) (i : Nat) (h : i < xs.length) : r47 xs (i : Int) = xs[i] := by simp [r47, List.getD_eq_getElem?_getD, List.getElem?_eq_getElem h]
def OkC (xs : List S94) : Prop := xs.length ≤ maxLen ∧ ∀ x ∈ xs, W94 x
theorem szI_loop (xs : List S94) (hw : ∀ x ∈ xs, W94 x) (hn : xs.length ≤ 9223372036854775807) (d : Nat) : ∀ (i : Nat) (n : Int), i + d = xs.length → 0 ≤ n → n ≤ 1048576 → ∃ z, Ev (fun k => laws_szInstrS.l0 k xs n (i : Int)) z ∧ z ≤ n := by
  induction d with
  | zero =>
    intro i n hi h0 h1
    exact ⟨_, Ev.step (fun k => by rw [laws_szInstrS.l0, if_neg (by omega)]) (Ev.now _), Int.le_refl _⟩
  | succ d ih =>
    intro i n hi h0 h1
    have hr := rdLI xs i (by omega)
    have hs := (hw _ (List.getElem_mem (show i < xs.length by omega))).2.2.2.2.2.2
    unfold maxLen at hs
    by_cases h : n - (xs[i]'(by omega)).f6.size < 0
    · refine ⟨-1, Ev.step (f := fun _ => some (-1)) (fun k => ?_) (Ev.now _), by omega⟩
      rw [laws_szInstrS.l0, if_pos (by omega), if_pos (by omega), hr]
      unfold laws_szInstr.f
      rw [wrap_ok (by omega) (by omega), if_pos h]
      rfl
    · obtain ⟨z, hz, hle⟩ := ih (i + 1) (n - (xs[i]'(by omega)).f6.size) (by omega) (by omega) (by omega)
      refine ⟨z, Ev.step (fun k => ?_) hz, by omega⟩
      rw [laws_szInstrS.l0, if_pos (by omega), if_pos (by omega), hr]
      unfold laws_szInstr.f
      rw [wrap_ok (i := n - (xs[i]'(by omega)).f6.size) (by omega) (by omega), if_neg h, Option.bind_some, if_neg h, wrap_ok (by omega) (by omega)]
      rfl
theorem szBlock_ev (b : S67) (hb : OkC b.f0) (n : Int) (h0 : 0 ≤ n) (h1 : n ≤ 1048576) : ∃ z, Ev (fun k => laws_szBlock.f k b.f0 b.f1 b.f2 b.f3 b.f4 n) z ∧ z ≤ n ∧ (0 ≤ z → (b.f0.length : Int) ≤ n - z) := by
  have hl := hb.1
  unfold maxLen at hl
  unfold laws_szBlock.f laws_szInstrS.f
  rw [wrap_ok (i := n - (b.f0.length : Int)) (by omega) (by omega)]
  by_cases h : n - (b.f0.length : Int) < 0
  · refine ⟨-1, ?_, by omega, fun h => by omega⟩
    simp only [if_pos h, Option.bind_some]
    exact Ev.ite_pos (by omega) (Ev.now _)
  · simp only [if_neg h]
    obtain ⟨z, hz, hle⟩ := szI_loop b.f0 hb.2 hl b.f0.length 0 (n - (b.f0.length : Int)) (by omega) (by omega) (by omega)
    by_cases h2 : z < 0
    · exact ⟨-1, Ev.bind hz (Ev.ite_pos h2 (Ev.now _)), by omega, fun h => by omega⟩
    · exact ⟨z, Ev.bind hz (Ev.ite_neg h2 (Ev.now _)), by omega, fun _ => by omega⟩
def steps : List S67 → Nat
  | [] => 0
  | b :: bs => b.f0.length + steps bs
theorem steps_mem (bs : List S67) (b : S67) (h : b ∈ bs) : b.f0.length ≤ steps bs := by
  induction bs with
  | nil => cases h
  | cons c cs ih =>
    rcases List.mem_cons.1 h with rfl | h
    · simp [steps]
    · have := ih h
      simp [steps]
      omega
theorem szB_loop (bs : List S67) (hw : ∀ b ∈ bs, OkC b.f0) (hn : bs.length ≤ 9223372036854775807) (d : Nat) : ∀ (i : Nat) (n : Int), i + d = bs.length → 0 ≤ n → n ≤ 1048576 →
    ∃ z, Ev (fun k => laws_szBlockS.l0 k bs n (i : Int)) z ∧ z ≤ n ∧ (0 ≤ z → (steps (bs.drop i) : Int) ≤ n - z) := by
  induction d with
  | zero =>
    intro i n hi h0 h1
    refine ⟨_, Ev.step (fun k => by rw [laws_szBlockS.l0, if_neg (by omega)]) (Ev.now _), Int.le_refl _, fun _ => ?_⟩
    rw [List.drop_eq_nil_of_le (by omega)]
    simp [steps]
  | succ d ih =>
    intro i n hi h0 h1
    have hr := rdLB bs i (by omega)
    have hd : bs.drop i = bs[i]'(by omega) :: bs.drop (i + 1) := List.drop_eq_getElem_cons (by omega)
    obtain ⟨y, hy, hy1, hy2⟩ := szBlock_ev (bs[i]'(by omega)) (hw _ (List.getElem_mem (show i < bs.length by omega))) n h0 h1
    by_cases h : y < 0
    · refine ⟨-1, Ev.step (fun k => ?_) (Ev.bind hy (f := fun k t => if t < 0 then some (-1) else laws_szBlockS.l0 k bs t ((i + 1 : Nat) : Int)) (Ev.ite_pos h (Ev.now _))), by omega, fun h => by omega⟩
      rw [laws_szBlockS.l0, if_pos (by omega), if_pos (by omega), hr, wrap_ok (by omega) (by omega)]
      rfl
    · obtain ⟨z, hz, hle, hs⟩ := ih (i + 1) y (by omega) (by omega) (by omega)
      refine ⟨z, Ev.step (fun k => ?_) (Ev.bind hy (f := fun k t => if t < 0 then some (-1) else laws_szBlockS.l0 k bs t ((i + 1 : Nat) : Int)) (Ev.ite_neg h hz)), by omega, fun h => ?_⟩
      · rw [laws_szBlockS.l0, if_pos (by omega), if_pos (by omega), hr, wrap_ok (by omega) (by omega)]
        rfl
      · have := hs h
        have := hy2 (by omega)
        rw [hd]
        simp only [steps]
        omega
structure Small (zs : List Int) (bs : List S67) : Prop where
  sizes : zs.length ≤ 1048576
  blocks : bs.length ≤ 1048576
  steps : steps bs ≤ 1048576
theorem Small.code {zs : List Int} {bs : List S67} (h : Small zs bs) : ∀ b ∈ bs, b.f0.length ≤ 1048576 := fun b hb => Nat.le_trans (steps_mem bs b hb) h.steps
theorem sz_ev (zs : List Int) (a b c : Int) (bs : List S67) (hz : zs.length ≤ maxLen) (hb : bs.length ≤ maxLen ∧ ∀ x ∈ bs, W67 x) (n : Int) (h0 : 0 ≤ n) (h1 : n ≤ 1048576) :
    ∃ z, Ev (fun k => laws_szGraph.f k zs a b c bs n) z ∧ z ≤ n ∧ (0 ≤ z → Small zs bs) := by
  have hbl := hb.1
  unfold maxLen at hz hbl
  unfold laws_szGraph.f laws_szIntS.f
  rw [wrap_ok (i := n - (zs.length : Int)) (by omega) (by omega)]
  by_cases h : n - (zs.length : Int) < 0
  · refine ⟨-1, ?_, by omega, fun h => by omega⟩
    simp only [if_pos h, Option.bind_some]
    exact Ev.ite_pos (by omega) (Ev.now _)
  · simp only [if_neg h, Option.bind_some]
    unfold laws_szBlockS.f
    rw [wrap_ok (i := n - (zs.length : Int) - (bs.length : Int)) (by omega) (by omega)]
    by_cases h2 : n - (zs.length : Int) - (bs.length : Int) < 0
    · simp only [if_pos h2, Option.bind_some]
      exact ⟨-1, Ev.ite_pos (by omega) (Ev.now _), by omega, fun h => by omega⟩
    · simp only [if_neg h2]
      obtain ⟨z, hz1, hz2, hz3⟩ := szB_loop bs (fun x hx => (hb.2 x hx).1) hbl bs.length 0 (n - (zs.length : Int) - (bs.length : Int)) (by omega) (by omega) (by omega)
      by_cases h3 : z < 0
      · exact ⟨-1, Ev.bind hz1 (Ev.ite_pos h3 (Ev.now _)), by omega, fun h => by omega⟩
      · refine ⟨z, Ev.bind hz1 (Ev.ite_neg h3 (Ev.now _)), by omega, fun h => ?_⟩
        have h4 := hz3 (by omega)
        rw [List.drop_zero] at h4
        exact ⟨by omega, by omega, by omega⟩
def conv (x : S94) : S57 := ⟨x.f0, x.f1, x.f2, x.f3, x.f4, x.f5, x.f6⟩
def convB (b : S67) : S47 := ⟨b.f0.map conv, b.f1, b.f2, b.f3, b.f4⟩
theorem toI_loop (xs : List S94) (hn : xs.length ≤ 1048576) (d : Nat) : ∀ i : Nat, i + d = xs.length → Ev (fun k => laws_toInstrS.l0 k xs ((xs.take i).map conv ++ List.replicate (xs.length - i) z57) (i : Int)) (xs.map conv) := by
  induction d with
  | zero =>
    intro i hi
    refine Ev.step (fun k => by rw [laws_toInstrS.l0, if_neg (by omega)]) ?_
    rw [List.take_of_length_le (by omega), show xs.length - i = 0 by omega, List.replicate_zero, List.append_nil]
    exact Ev.now _
  | succ d ih =>
    intro i hi
    have hr := rdLI xs i (by omega)
    have hf := fill_length xs conv z57 i (by omega)
    have hs := set_fill xs conv z57 i (by omega)
    refine Ev.step (fun k => ?_) (ih (i + 1) (by omega))
    rw [laws_toInstrS.l0, if_pos (by omega), if_pos (by omega), hr]
    unfold laws_toInstr.f
    rw [Option.bind_some, if_pos (by omega), wrap_ok (by omega) (by omega), Int.toNat_natCast, ← hs]
    rfl
theorem toI_ev (xs : List S94) (hn : xs.length ≤ 1048576) : Ev (fun k => laws_toInstrS.f k xs) (xs.map conv) := by
  refine Ev.congr (fun k => by rw [laws_toInstrS.f, if_pos (by omega), if_pos (by omega), Int.toNat_natCast]) ?_
  have h := toI_loop xs hn xs.length 0 (by omega)
  simpa using h
theorem toBlock_ev (b : S67) (hn : b.f0.length ≤ 1048576) : Ev (fun k => laws_toBlock.f k b.f0 b.f1 b.f2 b.f3 b.f4) ((convB b).f0, (convB b).f1, (convB b).f2, (convB b).f3, (convB b).f4) :=
  Ev.bind (f := fun _ t => some (t, b.f1, b.f2, b.f3, b.f4)) (toI_ev b.f0 hn) (Ev.now _)
theorem toB_loop (bs : List S67) (hn : bs.length ≤ 1048576) (hc : ∀ b ∈ bs, b.f0.length ≤ 1048576) (d : Nat) : ∀ i : Nat, i + d = bs.length → Ev (fun k => laws_toBlockS.l0 k bs ((bs.take i).map convB ++ List.replicate (bs.length - i) z47) (i : Int)) (bs.map convB) := by
  induction d with
  | zero =>
    intro i hi
    refine Ev.step (fun k => by rw [laws_toBlockS.l0, if_neg (by omega)]) ?_
    rw [List.take_of_length_le (by omega), show bs.length - i = 0 by omega, List.replicate_zero, List.append_nil]
    exact Ev.now _
  | succ d ih =>
    intro i hi
    have hr := rdLB bs i (by omega)
    have hf := fill_length bs convB z47 i (by omega)
    have hs := set_fill bs convB z47 i (by omega)
    have ht := toBlock_ev (bs[i]'(by omega)) (hc _ (List.getElem_mem (show i < bs.length by omega)))
    have hi' := ih (i + 1) (by omega)
    rw [← hs] at hi'
    refine Ev.step (fun k => ?_) (Ev.bind ht (f := fun k t => laws_toBlockS.l0 k bs (((bs.take i).map convB ++ List.replicate (bs.length - i) z47).set i (⟨t.1, t.2.1, t.2.2.1, t.2.2.2.1, t.2.2.2.2⟩ : S47)) ((i + 1 : Nat) : Int)) hi')
    rw [laws_toBlockS.l0, if_pos (by omega), if_pos (by omega), hr]
    simp only [if_pos (show (i : Int) < ((((bs.take i).map convB ++ List.replicate (bs.length - i) z47).length : Nat) : Int) by omega), wrap_ok (i := (i : Int) + 1) (by omega) (by omega), Int.toNat_natCast]
    rfl
theorem toB_ev (bs : List S67) (hn : bs.length ≤ 1048576) (hc : ∀ b ∈ bs, b.f0.length ≤ 1048576) : Ev (fun k => laws_toBlockS.f k bs) (bs.map convB) := by
  refine Ev.congr (fun k => by rw [laws_toBlockS.f, if_pos (by omega), if_pos (by omega), Int.toNat_natCast]) ?_
  have h := toB_loop bs hn hc bs.length 0 (by omega)
  simpa using h
theorem ints_ev (l m : List Int) (hl : l.length ≤ 1048576) : Ev (fun k => laws_eqIntS.f k l m) (decide (l = m)) := eqInts_ev laws_eqIntS.f laws_eqIntS.l0 (fun _ _ _ => rfl) (fun _ _ _ _ => rfl) l m (by omega)
theorem to_ev (zs : List Int) (a b c : Int) (bs : List S67) (h : Small zs bs) : Ev (fun k => laws_toGraph.f k zs a b c bs) (zs, a, b, c, bs.map convB) :=
  Ev.bind (copyInts_ev laws_toIntS.f laws_toIntS.l0 (fun _ _ => rfl) (fun _ _ _ _ => rfl) zs (by have := h.sizes; omega)) (Ev.bind (f := fun _ t => some (zs, a, b, c, t)) (toB_ev bs h.blocks h.code) (Ev.now _))
theorem eqI_loop (xs : List S57) (hn : xs.length ≤ 4294967296) (d : Nat) : ∀ i : Nat, i + d = xs.length → Ev (fun k => laws_eqInstrS.l0 k xs xs (i : Int)) true := by
  induction d with
  | zero =>
    intro i hi
    exact Ev.step (fun k => by rw [laws_eqInstrS.l0, if_neg (by omega)]) (Ev.now _)
  | succ d ih =>
    intro i hi
    refine Ev.step (fun k => ?_) (ih (i + 1) (by omega))
    rw [laws_eqInstrS.l0, if_pos (by omega), if_pos (by omega), if_pos (by omega)]
    unfold laws_eqInstr.f
    simp only [if_true, Option.bind_some]
    rw [wrap_ok (by omega) (by omega)]
    rfl
theorem eqBlock_ev (xs : List S57) (a b c d : Int) (hn : xs.length ≤ 4294967296) : Ev (fun k => laws_eqBlock.f k xs a b c d xs a b c d) true := by
  unfold laws_eqBlock.f laws_eqInstrS.f
  simp only [if_true]
  exact Ev.bind (eqI_loop xs hn xs.length 0 (by omega)) (Ev.ite_pos rfl (Ev.now _))
theorem eqB_loop (bs : List S47) (hn : bs.length ≤ 4294967296) (hc : ∀ b ∈ bs, b.f0.length ≤ 4294967296) (d : Nat) : ∀ i : Nat, i + d = bs.length → Ev (fun k => laws_eqBlockS.l0 k bs bs (i : Int)) true := by
  induction d with
  | zero =>
    intro i hi
    exact Ev.step (fun k => by rw [laws_eqBlockS.l0, if_neg (by omega)]) (Ev.now _)
  | succ d ih =>
    intro i hi
    have hr := rdIB bs i (by omega)
    refine Ev.step (fun k => ?_) (Ev.bind (eqBlock_ev (bs[i]'(by omega)).f0 (bs[i]'(by omega)).f1 (bs[i]'(by omega)).f2 (bs[i]'(by omega)).f3 (bs[i]'(by omega)).f4 (hc _ (List.getElem_mem (show i < bs.length by omega)))) (f := fun k t => if t = true then laws_eqBlockS.l0 k bs bs ((i + 1 : Nat) : Int) else none) (Ev.ite_pos rfl (ih (i + 1) (by omega))))
    rw [laws_eqBlockS.l0, if_pos (by omega), if_pos (by omega), if_pos (by omega), hr, wrap_ok (by omega) (by omega)]
    rfl
theorem eqG_ev (zs : List Int) (a b c : Int) (bs : List S47) (hz : zs.length ≤ 1048576) (hn : bs.length ≤ 4294967296) (hc : ∀ b ∈ bs, b.f0.length ≤ 4294967296) : Ev (fun k => laws_eqGraph.f k zs a b c bs zs a b c bs) true := by
  unfold laws_eqGraph.f laws_eqBlockS.f
  simp only [if_true]
  exact Ev.bind (ints_ev zs zs hz) (Ev.ite_pos (by simp) (Ev.bind (eqB_loop bs hn hc bs.length 0 (by omega)) (Ev.ite_pos rfl (Ev.now _))))
theorem conv_code {zs : List Int} {bs : List S67} (h : Small zs bs) : ∀ b ∈ bs.map convB, b.f0.length ≤ 1048576 := by
  intro b hb
  obtain ⟨x, hx, rfl⟩ := List.mem_map.1 hb
  have := h.code x hx
  simpa [convB] using this
theorem eq_ev (zs : List Int) (a b c : Int) (bs : List S67) (h : Small zs bs) : Ev (fun k => laws_eqGraph.f k zs a b c (bs.map convB) zs a b c (bs.map convB)) true :=
  eqG_ev zs a b c _ h.sizes (by have := h.blocks; simp; omega) (fun b hb => by have := conv_code h b hb; omega)
end Go.Proofs.Ytcbpbnkoolpibaa.Gr
namespace Go.Proofs.Ytcbpbnkoolpibaa.Gr
open RowKit P YtcbpbnkoolpibaaW.wA YtcbpbnkoolpibaaW.wB Aux
theorem text_ev (n : Int) (hn : n ≤ 9223372036854775807) : ∃ r, Ev (fun k => laws_markText.f k n) r := markText_ev laws_markText.f laws_markText.l0 (fun _ _ => by unfold laws_markText.f; rfl) (fun _ _ _ => by rw [laws_markText.l0]) n hn
def mkSteps : List S47 → Nat
  | [] => 0
  | b :: bs => b.f0.length + mkSteps bs
theorem mkSteps_conv : ∀ bs : List S67, mkSteps (bs.map convB) = steps bs := by
  intro bs
  induction bs with
  | nil => rfl
  | cons b bs ih =>
    simp only [List.map_cons, mkSteps, ih, steps, convB, List.length_map]
end Go.Proofs.Ytcbpbnkoolpibaa.Gr
