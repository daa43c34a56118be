/- All that lies within an expression, as_ the reference collects it. Conditions: fewer parts than 2^40. -/
import Derived.Test.YtjcggilkfofiaaaMSizeOf0ya
import Derived.Test.YtjcggilkfofiaaaMSizeOfxF53
namespace Go.Proofs.Ytjcggilkfofiaaa.Ex
open Go.RowKit Go.Proofs.Ytjcggilkfofiaaa.P Go.Proofs.YtjcggilkfofiaaaW.PrintWords Go.Proofs.YtjcggilkfofiaaaW.PrintLast Go.Proofs.Ytjcggilkfofiaaa.Aux
set_option linter.unusedVariables false
set_option linter.unusedSimpArgs false
theorem preEs_drop (l : List S29) (i : Nat) (h : i < l.length) : preEs (l.drop i) = preE l[i] ++ preEs (l.drop (i + 1)) := by
  rw [List.drop_eq_getElem_cons h, preEs]
theorem nEs_drop (l : List S29) (i : Nat) (h : i < l.length) : nEs (l.drop i) = nE l[i] + nEs (l.drop (i + 1)) := by
  rw [List.drop_eq_getElem_cons h, nEs]
theorem exps_loop (l : List S29) (a b c : Int) (s : ByteArray) (hN : nEs l < 1099511627776) (ih : ∀ x ∈ l, Ev (fun k => spec_l02Exps.f k x.f0 x.f1 x.f2 x.f3 x.f4) (preE x)) (d : Nat) : ∀ (i : Nat) (acc : List S29), i + d = l.length → acc.length + nEs (l.drop i) < 1099511627776 → Ev (fun k => spec_l02Exps.l0 k acc (i : Int) a b c s l) (acc ++ preEs (l.drop i)) := by
  have hll := nEs_len l
  induction d with
  | zero =>
    intro i acc hi hn
    refine Ev.step (f := fun _ => some acc) (fun k => by rw [spec_l02Exps.l0, if_neg (by omega)]) ?_
    rw [List.drop_eq_nil_of_le (by omega), preEs, List.append_nil]
    exact Ev.now _
  | succ d ihd =>
    intro i acc hi hn
    have hp : i < l.length := by omega
    rw [nEs_drop l i hp] at hn
    have hl2 := nEs_len (l.drop i)
    rw [List.length_drop, nEs_drop l i hp] at hl2
    refine Ev.step (fun k => by rw [spec_l02Exps.l0, if_pos (by omega), if_pos (by omega), rd_IE l i hp]) (Ev.bind (ih _ (List.getElem_mem hp)) ?_)
    have hlen := preE_len l[i]
    refine Ev.ite_pos (by rw [hlen]; omega) ?_
    have hw : wrap64 ((i : Int) + 1) = ((i + 1 : Nat) : Int) := by rw [wrap_ok (by omega) (by omega)]; omega
    rw [preEs_drop l i hp, ← List.append_assoc]
    refine Ev.congr (fun k => by rw [hw]) (ihd (i + 1) (acc ++ preE l[i]) (by omega) ?_)
    rw [List.length_append, hlen]
    omega
theorem exps_ev : ∀ (n : Nat) (x : S29), SizeOf.sizeOf x < n → nE x < 1099511627776 → Ev (fun k => spec_l02Exps.f k x.f0 x.f1 x.f2 x.f3 x.f4) (preE x)
  | 0, x, h, _ => absurd h (Nat.not_lt_zero _)
  | n + 1, x, h, hN => by
    rw [nE_eq] at hN
    have h0 := exps_loop x.f4 x.f0 x.f1 x.f2 x.f3 (by omega) (fun y hy => exps_ev n y (by have := kid_lt hy; omega) (by have := nEs_mem hy; omega)) x.f4.length 0 [x] (by omega) (by rw [List.drop_zero, List.length_singleton]; omega)
    rw [List.drop_zero] at h0
    rw [preE_eq]
    refine Ev.step (fun k => ?_) h0
    rw [spec_l02Exps.f]
    cases x
    rfl
theorem exps_f (x : S29) (h : nE x < 1099511627776) : Ev (fun k => spec_l02Exps.f k x.f0 x.f1 x.f2 x.f3 x.f4) (preE x) := exps_ev _ x (Nat.lt_succ_self _) h
end Go.Proofs.Ytjcggilkfofiaaa.Ex
