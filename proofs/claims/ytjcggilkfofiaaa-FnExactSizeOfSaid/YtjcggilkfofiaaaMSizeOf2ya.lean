/- All statements of a program and all expressions in them, as_ the reference collects them. Conditions: fewer parts than 2^40. -/
import Derived.Test.YtjcggilkfofiaaaMSizeOf1ya
import Derived.Test.YtjcggilkfofiaaaMSizeOfxF39
import Derived.Test.YtjcggilkfofiaaaMSizeOfxF40
namespace Go.Proofs.Ytjcggilkfofiaaa.Ex
open Go.RowKit Go.Proofs.Ytjcggilkfofiaaa.P Go.Proofs.YtjcggilkfofiaaaW.PrintWords Go.Proofs.YtjcggilkfofiaaaW.PrintLast Go.Proofs.Ytjcggilkfofiaaa.Aux
set_option linter.unusedVariables false
set_option linter.unusedSimpArgs false
theorem wrapS (i : Nat) (h : i < 4611686018427387904) : wrap64 ((i : Int) + 1) = ((i + 1 : Nat) : Int) := by rw [wrap_ok (by omega) (by omega)]; omega
theorem preSs_drop (l : List S62) (i : Nat) (h : i < l.length) : preSs (l.drop i) = preS l[i] ++ preSs (l.drop (i + 1)) := by
  rw [List.drop_eq_getElem_cons h, preSs]
theorem nSs_drop (l : List S62) (i : Nat) (h : i < l.length) : nSs (l.drop i) = nS l[i] + nSs (l.drop (i + 1)) := by
  rw [List.drop_eq_getElem_cons h, nSs]
mutual
theorem preS_le : ∀ x : S62, (preS x).length ≤ nS x
  | ⟨a, b, c, es, p, q⟩ => by rw [preS, nS, List.length_cons, List.length_append]; have := preSs_le p; have := preSs_le q; omega
theorem preSs_le : ∀ l : List S62, (preSs l).length ≤ nSs l
  | [] => by rw [preSs, nSs]; exact Nat.le_refl _
  | x :: xs => by rw [preSs, nSs, List.length_append]; have := preS_le x; have := preSs_le xs; omega
end
theorem stmts_loop (l : List S62) (hN : nSs l < 1099511627776) (ih4 : ∀ x ∈ l, Ev (fun k => spec_l02Stmts.f k x.f4) (preSs x.f4)) (ih5 : ∀ x ∈ l, Ev (fun k => spec_l02Stmts.f k x.f5) (preSs x.f5)) (d : Nat) : ∀ (i : Nat) (acc : List S62), i + d = l.length → acc.length + nSs (l.drop i) < 1099511627776 → Ev (fun k => spec_l02Stmts.l0 k l acc (i : Int)) (acc ++ preSs (l.drop i)) := by
  have hll := nSs_len l
  induction d with
  | zero =>
    intro i acc hi hn
    refine Ev.step (f := fun _ => some acc) (fun k => by rw [spec_l02Stmts.l0, if_neg (by omega)]) ?_
    rw [List.drop_eq_nil_of_le (by omega), preSs, List.append_nil]
    exact Ev.now _
  | succ d ihd =>
    intro i acc hi hn
    have hp : i < l.length := by omega
    rw [nSs_drop l i hp] at hn
    have hns := nS_eq l[i]
    have e4 := preSs_le l[i].f4
    have e5 := preSs_le l[i].f5
    have heta : (⟨l[i].f0, l[i].f1, l[i].f2, l[i].f3, l[i].f4, l[i].f5⟩ : S62) = l[i] := by cases l[i]; rfl
    refine Ev.step (fun k => by rw [spec_l02Stmts.l0, if_pos (by omega), if_pos (by omega), rd_IS l i hp, if_pos (by omega), Option.bind_some]) ?_
    refine Ev.bind (ih4 _ (List.getElem_mem hp)) ?_
    refine Ev.ite_pos (by rw [List.length_append, List.length_singleton]; omega) ?_
    simp only [Option.bind_some]
    refine Ev.bind (ih5 _ (List.getElem_mem hp)) ?_
    refine Ev.ite_pos (by rw [List.length_append, List.length_append, List.length_singleton]; omega) ?_
    rw [preSs_drop l i hp]
    have hpre : preS l[i] = l[i] :: (preSs l[i].f4 ++ preSs l[i].f5) := preS_eq _
    have key := ihd (i + 1) (acc ++ preS l[i]) (by omega) (by rw [List.length_append]; have := preS_le l[i]; omega)
    rw [hpre] at key ⊢
    rw [← List.append_assoc]
    refine Ev.congr (fun k => ?_) key
    rw [wrapS i (by omega)]
    rw [heta]
    simp only [List.append_assoc, List.cons_append, List.nil_append, List.singleton_append]
theorem stmts_ev : ∀ (n : Nat) (l : List S62), (∀ x ∈ l, SizeOf.sizeOf x < n) → nSs l < 1099511627776 → Ev (fun k => spec_l02Stmts.f k l) (preSs l) := by
  intro n
  induction n using Nat.strongRecOn with
  | ind n ih =>
    intro l h hN
    have h0 := stmts_loop l hN (fun y hy => ih _ (h y hy) y.f4 (fun z hz => kidS4_lt hz) (by have := nSs_mem hy; have := nS_eq y; omega)) (fun y hy => ih _ (h y hy) y.f5 (fun z hz => kidS5_lt hz) (by have := nSs_mem hy; have := nS_eq y; omega)) l.length 0 [] (by omega) (by rw [List.drop_zero]; simpa using hN)
    rw [List.drop_zero, List.nil_append] at h0
    exact Ev.step (fun k => by rw [spec_l02Stmts.f]; rfl) h0
theorem stmts_f (l : List S62) (h : nSs l < 1099511627776) : Ev (fun k => spec_l02Stmts.f k l) (preSs l) := stmts_ev (SizeOf.sizeOf l + 1) l (fun x hx => by have := List.sizeOf_lt_of_mem hx; omega) h
/-- All expressions of statements. -/
def allE : List S62 → List S29
  | [] => []
  | x :: xs => preEs x.f3 ++ allE xs
theorem allE_drop (l : List S62) (i : Nat) (h : i < l.length) : allE (l.drop i) = preEs l[i].f3 ++ allE (l.drop (i + 1)) := by
  rw [List.drop_eq_getElem_cons h, allE]
theorem len_sumW : ∀ l : List S62, l.length + (allE l).length = sumW l
  | [] => rfl
  | x :: xs => by rw [allE, sumW, List.length_append, preEs_len, List.length_cons, ← len_sumW xs]; unfold wS; omega
theorem all_loop (l : List S62) (hl : l.length < 1099511627776) (hN : (allE l).length < 1099511627776) (d : Nat) : ∀ (i : Nat) (acc : List S29), i + d = l.length → acc.length + (allE (l.drop i)).length < 1099511627776 → Ev (fun k => spec_l02All.l0 k acc l (i : Int)) (acc ++ allE (l.drop i)) := by
  induction d with
  | zero =>
    intro i acc hi hn
    refine Ev.step (f := fun _ => some acc) (fun k => by rw [spec_l02All.l0, if_neg (by omega)]) ?_
    rw [List.drop_eq_nil_of_le (by omega), allE, List.append_nil]
    exact Ev.now _
  | succ d ihd =>
    intro i acc hi hn
    have hp : i < l.length := by omega
    rw [allE_drop l i hp, List.length_append, preEs_len] at hn
    have hlk := nEs_len l[i].f3
    rw [allE_drop l i hp, ← List.append_assoc]
    refine Ev.step (fun k => by rw [spec_l02All.l0, if_pos (by omega)]) ?_
    have inner : ∀ (e j : Nat) (acc2 : List S29), j + e = l[i].f3.length → acc2.length + nEs (l[i].f3.drop j) + (allE (l.drop (i + 1))).length < 1099511627776 → Ev (fun k => spec_l02All.l1 k acc2 l (i : Int) (j : Int)) (acc2 ++ preEs (l[i].f3.drop j) ++ allE (l.drop (i + 1))) := by
      intro e
      induction e with
      | zero =>
        intro j acc2 hj hn2
        refine Ev.step (fun k => by rw [spec_l02All.l1, if_pos (by omega), if_pos (by omega), rd_IS l i hp, if_neg (by omega), wrapS i (by omega)]) ?_
        rw [List.drop_eq_nil_of_le (by omega), preEs, List.append_nil]
        exact ihd (i + 1) acc2 (by omega) (by omega)
      | succ e ihe =>
        intro j acc2 hj hn2
        have hjp : j < l[i].f3.length := by omega
        rw [nEs_drop _ j hjp] at hn2
        have hlen := preE_len l[i].f3[j]
        refine Ev.step (fun k => by rw [spec_l02All.l1, if_pos (by omega), if_pos (by omega), rd_IS l i hp, if_pos (by omega), if_pos (by omega), rd_IE _ j hjp, wrapS j (by omega)]) ?_
        refine Ev.bind (exps_f l[i].f3[j] (by omega)) ?_
        refine Ev.ite_pos (by rw [hlen]; omega) ?_
        rw [preEs_drop _ j hjp, ← List.append_assoc]
        exact ihe (j + 1) (acc2 ++ preE l[i].f3[j]) (by omega) (by rw [List.length_append, hlen]; omega)
    have key := inner l[i].f3.length 0 acc (by omega) (by rw [List.drop_zero]; omega)
    rw [List.drop_zero] at key
    exact key
theorem all_f (zs : List Int) (p v : Int) (l : List S62) (h : nSs l < 1099511627776) : Ev (fun k => spec_l02All.f k zs p v l) (allE (preSs l)) := by
  have h1 := len_sumW (preSs l)
  rw [sumW_preSs] at h1
  have h2 := all_loop (preSs l) (by omega) (by omega) (preSs l).length 0 [] (by omega) (by rw [List.drop_zero]; simp; omega)
  rw [List.drop_zero, List.nil_append] at h2
  exact Ev.bind (stmts_f l h) h2
end Go.Proofs.Ytjcggilkfofiaaa.Ex
