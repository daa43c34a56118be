/- A graph's text: the reference's and the program's are one. Conditions: a graph of not too many steps, numbers of 64 bits. -/
import Derived.Test.YtbbpmcignfhfmaaDoorMShowGraph1ta
import Derived.Test.YtbbpmcignfhfmaaDoorMShowGraph1ua
import Derived.Test.YtbbpmcignfhfmaaDoorMShowGraph1a
import Derived.Test.YtbbpmcignfhfmaaDoorMShowGraphxF13
namespace Go.Proofs.YtbbpmcignfhfmaaDoor.Dec
open Go.RowKit Go.Proofs.YtbbpmcignfhfmaaDoor.P Go.Proofs.YtbbpmcignfhfmaaDoorW.PrintWords Go.Proofs.YtbbpmcignfhfmaaDoorW.PrintLast Go.Proofs.YtbbpmcignfhfmaaDoor.Aux Go.Proofs.YtbbpmcignfhfmaaDoor.Gr Go.Proofs.YtbbpmcignfhfmaaDoor.Opens
set_option linter.unusedVariables false
set_option linter.unusedSimpArgs false
theorem bz_loop (s : ByteArray) : ∀ (d i : Nat) (r : List UInt8), i + d = s.size → ByteArray.toList.loop s i r = r.reverse ++ s.data.toList.drop i := by
  intro d
  induction d with
  | zero =>
    intro i r h
    rw [ByteArray.toList.loop, if_neg (by omega), List.drop_eq_nil_of_le (by rw [Array.length_toList]; show s.size ≤ i; omega), List.append_nil]
  | succ d ih =>
    intro i r h
    have hi : i < s.data.toList.length := by rw [Array.length_toList]; show i < s.size; omega
    rw [ByteArray.toList.loop, if_pos (by omega), ih (i + 1) _ (by omega), List.drop_eq_getElem_cons hi, List.reverse_cons, List.append_assoc]
    have : s.get! i = s.data.toList[i] := by
      rw [ByteArray.get!, Array.getElem_toList]
      exact getElem!_pos s.data i (by simpa using hi)
    rw [this]
    rfl
theorem bz_len (s : ByteArray) : s.toList.length = s.size := by
  rw [ByteArray.toList, bz_loop s s.size 0 [] (by omega), List.reverse_nil, List.nil_append, List.drop_zero, Array.length_toList]
  rfl
theorem instr_text {z s o d a b c n : Int} {t : ByteArray} (h : instrB z s o d a b c n t = true) : t.size ≤ 2 := by
  have h2 : t.toList.isEmpty = true ∨ signB t = true := by
    unfold instrB at h
    generalize t.toList.isEmpty = e at h ⊢
    generalize signB t = g at h ⊢
    cases e <;> cases g
    · simp at h
    · exact Or.inr rfl
    · exact Or.inl rfl
    · exact Or.inl rfl
  rw [← bz_len]
  rcases h2 with h2 | h2
  · rw [List.isEmpty_iff.mp h2]
    simp
  · unfold signB at h2
    obtain ⟨x, hx, he⟩ := List.any_eq_true.1 h2
    have he := of_decide_eq_true he
    rw [← he, bz_len]
    simp only [signs, List.mem_cons, List.not_mem_nil, or_false] at hx
    rcases hx with rfl | rfl | rfl | rfl | rfl | rfl <;> decide
/-- What a step's numbers keep. -/
def StepOk (x : S35) : Prop := I64 x.f0 ∧ I64 x.f1 ∧ I64 x.f2 ∧ I64 x.f3 ∧ I64 x.f4 ∧ I64 x.f5 ∧ x.f6.size ≤ 2
def BlkI (b : S52) : Prop := I64 b.f1 ∧ I64 b.f2 ∧ I64 b.f3 ∧ I64 b.f4 ∧ ∀ x ∈ b.f0, StepOk x
def xT (x : S35) : ByteArray := insT x.f0 x.f1 x.f2 x.f3 x.f4 x.f5 x.f6
theorem xT_size {x : S35} (h : StepOk x) : (xT x).size ≤ 202 := by
  obtain ⟨h0, h1, h2, h3, h4, h5, h6⟩ := h
  have := insT_size (o := x.f0) h1 h2 h3 h4 h5 (show x.f6.size ≤ 4294967296 by omega)
  unfold xT
  omega
def stepsT (x : ByteArray) : List S35 → ByteArray
  | [] => x
  | c :: l => stepsT ((x ++ xT c) ++ (⟨#[10]⟩ : ByteArray)) l
theorem stepsT_size (l : List S35) (h : ∀ c ∈ l, StepOk c) : ∀ x : ByteArray, (stepsT x l).size ≤ x.size + 203 * l.length := by
  induction l with
  | nil => intro x; exact Nat.le_refl _
  | cons c l ih =>
    intro x
    have h1 := ih (fun y hy => h y (List.mem_cons_of_mem _ hy)) ((x ++ xT c) ++ (⟨#[10]⟩ : ByteArray))
    have h2 := xT_size (h c (by simp))
    simp only [ByteArray.size_append, lit1] at h1
    simp only [stepsT, List.length_cons]
    omega
def jumpT (x : ByteArray) (b : S52) : ByteArray :=
  if b.f1 = 0 then ((x ++ (⟨#[103, 111, 32, 98]⟩ : ByteArray)) ++ dt b.f3) ++ (⟨#[10]⟩ : ByteArray)
  else if b.f1 = 1 then ((((((x ++ (⟨#[105, 102, 32, 115]⟩ : ByteArray)) ++ dt b.f2) ++ (⟨#[32, 98]⟩ : ByteArray)) ++ dt b.f3) ++ (⟨#[32, 98]⟩ : ByteArray)) ++ dt b.f4) ++ (⟨#[10]⟩ : ByteArray)
  else ((x ++ (⟨#[114, 101, 116, 32, 115]⟩ : ByteArray)) ++ dt b.f2) ++ (⟨#[10]⟩ : ByteArray)
theorem jumpT_size (x : ByteArray) {b : S52} (h : BlkI b) : (jumpT x b).size ≤ x.size + 80 := by
  obtain ⟨h1, h2, h3, h4, _⟩ := h
  have a2 := dt_size h2
  have a3 := dt_size h3
  have a4 := dt_size h4
  unfold jumpT
  repeat' split
  all_goals simp only [ByteArray.size_append, lit1, lit2, lit4, lit5]
  all_goals omega
def headT (x : ByteArray) (i : Nat) : ByteArray := ((x ++ (⟨#[98]⟩ : ByteArray)) ++ dt (i : Int)) ++ (⟨#[58, 10]⟩ : ByteArray)
def blocksT (x : ByteArray) (i : Nat) : List S52 → ByteArray
  | [] => x
  | b :: bs => blocksT (jumpT (stepsT (headT x i) b.f0) b) (i + 1) bs
theorem rdII (xs : List S35) (i : Nat) (h : i < xs.length) : rd_T35 xs (i : Int) = xs[i] := by
  simp [rd_T35, List.getD_eq_getElem?_getD, List.getElem?_eq_getElem h]
theorem rdIB' (xs : List S52) (i : Nat) (h : i < xs.length) : rd_T52 xs (i : Int) = xs[i] := by
  simp [rd_T52, List.getD_eq_getElem?_getD, List.getElem?_eq_getElem h]
section
variable (zs : List Int) (p v s : Int) (bs : List S52)
theorem spec_l1 (i : Nat) (b : S52) (hb : BlkI b) (hl : b.f0.length ≤ 1000) (hi : i ≤ 1000) (R : ByteArray) (d : Nat) : ∀ (j : Nat) (x : ByteArray), j + d = b.f0.length → x.size + 203 * d ≤ 1000000000 →
    Ev (fun k => spec_ShowGraph.l0 k (jumpT (stepsT x (b.f0.drop j)) b) ((i + 1 : Nat) : Int) zs p v s bs) R → Ev (fun k => spec_ShowGraph.l1 k x (i : Int) (j : Int) zs p v s bs b.f0 b.f1 b.f2 b.f3 b.f4) R := by
  obtain ⟨h1, h2, h3, h4, hx⟩ := hb
  have a2 := dt_size h2
  have a3 := dt_size h3
  have a4 := dt_size h4
  have hw : wrap64 ((i : Int) + 1) = ((i + 1 : Nat) : Int) := by rw [wrap_ok (by omega) (by omega)]; omega
  have HW := Zs0.mk hw
  clear hw
  induction d with
  | zero =>
    intro j x hj hs hR
    rw [List.drop_eq_nil_of_le (by omega), stepsT] at hR
    refine Ev.step (fun k => by rw [spec_ShowGraph.l1, if_neg (by omega)]) ?_
    unfold jumpT at hR
    by_cases c0 : b.f1 = 0
    · rw [if_pos c0] at hR
      refine Ev.ite_pos c0 (Ev.ite_pos (by omega) (Ev.bind (dt_ev h3) (Ev.ite_pos (by simp only [ByteArray.size_append, lit4]; omega) (Ev.ite_pos (by simp only [ByteArray.size_append, lit4]; omega) ?_))))
      rw [HW.out]
      exact hR
    rw [if_neg c0] at hR
    refine Ev.ite_neg c0 ?_
    by_cases c1 : b.f1 = 1
    · rw [if_pos c1] at hR
      refine Ev.ite_pos c1 (Ev.ite_pos (by omega) (Ev.bind (dt_ev h2) (Ev.ite_pos (by simp only [ByteArray.size_append, lit4]; omega) (Ev.ite_pos (by simp only [ByteArray.size_append, lit4]; omega) (Ev.bind (dt_ev h3) (Ev.ite_pos (by simp only [ByteArray.size_append, lit2, lit4]; omega) (Ev.ite_pos (by simp only [ByteArray.size_append, lit2, lit4]; omega) (Ev.bind (dt_ev h4) (Ev.ite_pos (by simp only [ByteArray.size_append, lit2, lit4]; omega) (Ev.ite_pos (by simp only [ByteArray.size_append, lit2, lit4]; omega) ?_))))))))))
      rw [HW.out]
      exact hR
    rw [if_neg c1] at hR
    refine Ev.ite_neg c1 (Ev.ite_pos (by omega) (Ev.bind (dt_ev h2) (Ev.ite_pos (by simp only [ByteArray.size_append, lit5]; omega) (Ev.ite_pos (by simp only [ByteArray.size_append, lit5]; omega) ?_))))
    rw [HW.out]
    exact hR
  | succ d ih =>
    intro j x hj hs hR
    have hj' : j < b.f0.length := by omega
    have hk := hx b.f0[j] (List.getElem_mem hj')
    have hz := xT_size hk
    have hr := rdII b.f0 j hj'
    rw [List.drop_eq_getElem_cons hj', stepsT] at hR
    have key := ih (j + 1) ((x ++ xT b.f0[j]) ++ (⟨#[10]⟩ : ByteArray)) (by omega) (by simp only [ByteArray.size_append, lit1]; omega) hR
    obtain ⟨k0, k1, k2, k3, k4, k5, k6⟩ := hk
    have tv := text_ev (o := b.f0[j].f0) k1 k2 k3 k4 k5 (show b.f0[j].f6.size ≤ 4294967296 by omega)
    have z1 : x.size + (xT b.f0[j]).size ≤ 9223372036854775807 := by omega
    have z2 : (x ++ xT b.f0[j]).size + 1 ≤ 9223372036854775807 := by simp only [ByteArray.size_append]; omega
    have p1 : (j : Int) < (b.f0.length : Int) := by omega
    have p2 : 0 ≤ (j : Int) := by omega
    have hw2 : wrap64 ((j : Int) + 1) = ((j + 1 : Nat) : Int) := by rw [wrap_ok (by omega) (by omega)]; omega
    refine Ev.step (fun k => by rw [spec_ShowGraph.l1, if_pos p1, if_pos p2, hr]) (Ev.bind tv (Ev.ite_pos z1 (Ev.ite_pos z2 ?_)))
    rw [hw2]
    exact key
theorem impl_l1 (i : Nat) (n : Int) (b : S52) (hb : BlkI b) (hl : b.f0.length ≤ 1000) (hi : i ≤ 1000) (R : ByteArray) (d : Nat) : ∀ (j : Nat) (x : ByteArray), j + d = b.f0.length → x.size + 203 * d ≤ 1000000000 →
    Ev (fun k => impl_ShowGraph.l0 k (jumpT (stepsT x (b.f0.drop j)) b) bs n ((i + 1 : Nat) : Int)) R → Ev (fun k => impl_ShowGraph.l1 k x bs n (i : Int) b.f0 (b.f0.length : Int) (j : Int) b.f0 b.f1 b.f2 b.f3 b.f4) R := by
  obtain ⟨h1, h2, h3, h4, hx⟩ := hb
  have a2 := dt_size h2
  have a3 := dt_size h3
  have a4 := dt_size h4
  have b2 := slT_size h2
  have hw : wrap64 ((i : Int) + 1) = ((i + 1 : Nat) : Int) := by rw [wrap_ok (by omega) (by omega)]; omega
  have HW := Zs0.mk hw
  clear hw
  induction d with
  | zero =>
    intro j x hj hs hR
    rw [List.drop_eq_nil_of_le (by omega), stepsT] at hR
    refine Ev.step (fun k => by rw [impl_ShowGraph.l1, if_neg (by omega)]) ?_
    unfold jumpT at hR
    by_cases c0 : b.f1 = 0
    · rw [if_pos c0] at hR
      refine Ev.ite_pos c0 (Ev.const (dt_f h3) (Ev.ite_pos (by omega) (Ev.ite_pos (by simp only [ByteArray.size_append, lit4]; omega) (Ev.ite_pos (by simp only [ByteArray.size_append, lit1, lit4]; omega) ?_))))
      rw [HW.out]
      have e : x ++ (((⟨#[103, 111, 32, 98]⟩ : ByteArray) ++ dt b.f3) ++ (⟨#[10]⟩ : ByteArray)) = ((x ++ (⟨#[103, 111, 32, 98]⟩ : ByteArray)) ++ dt b.f3) ++ (⟨#[10]⟩ : ByteArray) := by simp only [ByteArray.append_assoc]
      rw [e]
      exact hR
    rw [if_neg c0] at hR
    refine Ev.ite_neg c0 ?_
    by_cases c1 : b.f1 = 1
    · rw [if_pos c1] at hR
      refine Ev.ite_pos c1 (Ev.const (slot_f h2) (Ev.ite_pos (by omega) (Ev.ite_pos (by simp only [ByteArray.size_append, lit3]; omega) (Ev.const (dt_f h3) (Ev.ite_pos (by simp only [ByteArray.size_append, lit2, lit3]; omega) (Ev.ite_pos (by simp only [ByteArray.size_append, lit2, lit3]; omega) (Ev.const (dt_f h4) (Ev.ite_pos (by simp only [ByteArray.size_append, lit2, lit3]; omega) (Ev.ite_pos (by simp only [ByteArray.size_append, lit2, lit3]; omega) (Ev.ite_pos (by simp only [ByteArray.size_append, lit1, lit2, lit3]; omega) ?_))))))))))
      rw [HW.out]
      have e : x ++ (((((((⟨#[105, 102, 32]⟩ : ByteArray) ++ slT b.f2) ++ (⟨#[32, 98]⟩ : ByteArray)) ++ dt b.f3) ++ (⟨#[32, 98]⟩ : ByteArray)) ++ dt b.f4) ++ (⟨#[10]⟩ : ByteArray)) = ((((((x ++ (⟨#[105, 102, 32, 115]⟩ : ByteArray)) ++ dt b.f2) ++ (⟨#[32, 98]⟩ : ByteArray)) ++ dt b.f3) ++ (⟨#[32, 98]⟩ : ByteArray)) ++ dt b.f4) ++ (⟨#[10]⟩ : ByteArray) := by
        have e2 : (⟨#[105, 102, 32, 115]⟩ : ByteArray) = (⟨#[105, 102, 32]⟩ : ByteArray) ++ (⟨#[115]⟩ : ByteArray) := rfl
        rw [e2]
        unfold slT
        simp only [ByteArray.append_assoc]
      rw [e]
      exact hR
    rw [if_neg c1] at hR
    refine Ev.ite_neg c1 (Ev.const (slot_f h2) (Ev.ite_pos (by omega) (Ev.ite_pos (by simp only [ByteArray.size_append, lit4]; omega) (Ev.ite_pos (by simp only [ByteArray.size_append, lit1, lit4]; omega) ?_))))
    rw [HW.out]
    have e : x ++ (((⟨#[114, 101, 116, 32]⟩ : ByteArray) ++ slT b.f2) ++ (⟨#[10]⟩ : ByteArray)) = ((x ++ (⟨#[114, 101, 116, 32, 115]⟩ : ByteArray)) ++ dt b.f2) ++ (⟨#[10]⟩ : ByteArray) := by
      have e2 : (⟨#[114, 101, 116, 32, 115]⟩ : ByteArray) = (⟨#[114, 101, 116, 32]⟩ : ByteArray) ++ (⟨#[115]⟩ : ByteArray) := rfl
      rw [e2]
      unfold slT
      simp only [ByteArray.append_assoc]
    rw [e]
    exact hR
  | succ d ih =>
    intro j x hj hs hR
    have hj' : j < b.f0.length := by omega
    have hk := hx b.f0[j] (List.getElem_mem hj')
    have hz := xT_size hk
    have hr := rdII b.f0 j hj'
    rw [List.drop_eq_getElem_cons hj', stepsT] at hR
    have key := ih (j + 1) ((x ++ xT b.f0[j]) ++ (⟨#[10]⟩ : ByteArray)) (by omega) (by simp only [ByteArray.size_append, lit1]; omega) hR
    obtain ⟨k0, k1, k2, k3, k4, k5, k6⟩ := hk
    have tv := show_ev (o := b.f0[j].f0) k1 k2 k3 k4 k5 (show b.f0[j].f6.size ≤ 4294967296 by omega)
    have z1 : (xT b.f0[j]).size + 1 ≤ 9223372036854775807 := by omega
    have z2 : x.size + (xT b.f0[j] ++ (⟨#[10]⟩ : ByteArray)).size ≤ 9223372036854775807 := by simp only [ByteArray.size_append, lit1]; omega
    have p1 : (j : Int) < (b.f0.length : Int) := by omega
    have p2 : 0 ≤ (j : Int) := by omega
    have hw2 : wrap64 ((j : Int) + 1) = ((j + 1 : Nat) : Int) := by rw [wrap_ok (by omega) (by omega)]; omega
    refine Ev.step (fun k => by rw [impl_ShowGraph.l1, if_pos p1, if_pos p2, if_pos p1, hr]) (Ev.bind tv (Ev.ite_pos z1 (Ev.ite_pos z2 ?_)))
    rw [hw2, show insT b.f0[j].f0 b.f0[j].f1 b.f0[j].f2 b.f0[j].f3 b.f0[j].f4 b.f0[j].f5 b.f0[j].f6 = xT b.f0[j] from rfl, ← ByteArray.append_assoc]
    exact key
theorem headT_size (x : ByteArray) (i : Nat) (hi : i ≤ 1000) : (headT x i).size ≤ x.size + 24 := by
  have := dt_size (n := (i : Int)) ⟨by omega, by omega⟩
  unfold headT
  simp only [ByteArray.size_append, lit1, lit2]
  omega
theorem spec_l0 (hG : Ev (fun k => spec_GraphOk.f k zs p v s bs) true) (hb : ∀ b ∈ bs, BlkI b) (hn : bs.length ≤ 300) (d : Nat) : ∀ (i : Nat) (x : ByteArray), i + d = bs.length → Ok.stepsI (bs.drop i) ≤ 1000 → x.size + 104 * d + 203 * Ok.stepsI (bs.drop i) ≤ 1000000 →
    Ev (fun k => spec_ShowGraph.l0 k x (i : Int) zs p v s bs) (blocksT x i (bs.drop i)) := by
  induction d with
  | zero =>
    intro i x hi h1 h2
    rw [List.drop_eq_nil_of_le (by omega), blocksT]
    refine Ev.step (fun k => by rw [spec_ShowGraph.l0, if_neg (by omega)]) (Ev.step (fun k => by rw [spec_ShowGraph.j1, if_neg (by decide)]) (Ev.now _))
  | succ d ih =>
    intro i x hi h1 h2
    have hi' : i < bs.length := by omega
    have hk := hb bs[i] (List.getElem_mem hi')
    rw [List.drop_eq_getElem_cons hi', Ok.stepsI] at h1 h2
    rw [List.drop_eq_getElem_cons hi', blocksT]
    have s1 := headT_size x i (by omega)
    have s2 := stepsT_size bs[i].f0 hk.2.2.2.2 (headT x i)
    have s3 := jumpT_size (stepsT (headT x i) bs[i].f0) hk
    have key := ih (i + 1) (jumpT (stepsT (headT x i) bs[i].f0) bs[i]) (by omega) (by omega) (by omega)
    have l1 := spec_l1 zs p v s bs i bs[i] hk (by omega) (by omega) _ bs[i].f0.length 0 (headT x i) (by omega) (by omega) (by rw [List.drop_zero]; exact key)
    have hI : I64 (i : Int) := ⟨by omega, by omega⟩
    have hd := dt_size hI
    have hr := rdIB' bs i hi'
    refine Ev.step (fun k => by rw [spec_ShowGraph.l0, if_pos (by omega)]) (Ev.bind hG (Ev.step (fun k => by rw [spec_ShowGraph.j1, if_pos rfl, if_pos (by omega), if_pos (by omega), if_pos (by omega), hr]) (Ev.bind (dt_ev hI) ?_)))
    exact Ev.ite_pos (by simp only [ByteArray.size_append, lit1]; omega) (Ev.ite_pos (by simp only [ByteArray.size_append, lit1]; omega) l1)
theorem impl_l0 (hb : ∀ b ∈ bs, BlkI b) (hn : bs.length ≤ 300) (d : Nat) : ∀ (i : Nat) (x : ByteArray), i + d = bs.length → Ok.stepsI (bs.drop i) ≤ 1000 → x.size + 104 * d + 203 * Ok.stepsI (bs.drop i) ≤ 1000000 →
    Ev (fun k => impl_ShowGraph.l0 k x bs (bs.length : Int) (i : Int)) (blocksT x i (bs.drop i)) := by
  induction d with
  | zero =>
    intro i x hi h1 h2
    rw [List.drop_eq_nil_of_le (by omega), blocksT]
    exact Ev.step (fun k => by rw [impl_ShowGraph.l0, if_neg (by omega)]) (Ev.now _)
  | succ d ih =>
    intro i x hi h1 h2
    have hi' : i < bs.length := by omega
    have hk := hb bs[i] (List.getElem_mem hi')
    rw [List.drop_eq_getElem_cons hi', Ok.stepsI] at h1 h2
    rw [List.drop_eq_getElem_cons hi', blocksT]
    have s1 := headT_size x i (by omega)
    have s2 := stepsT_size bs[i].f0 hk.2.2.2.2 (headT x i)
    have s3 := jumpT_size (stepsT (headT x i) bs[i].f0) hk
    have key := ih (i + 1) (jumpT (stepsT (headT x i) bs[i].f0) bs[i]) (by omega) (by omega) (by omega)
    have l1 := impl_l1 bs i (bs.length : Int) bs[i] hk (by omega) (by omega) _ bs[i].f0.length 0 (headT x i) (by omega) (by omega) (by rw [List.drop_zero]; exact key)
    have hI : I64 (i : Int) := ⟨by omega, by omega⟩
    have hd := dt_size hI
    have hr := rdIB' bs i hi'
    refine Ev.step (fun k => by rw [impl_ShowGraph.l0, if_pos (by omega), if_pos (by omega), if_pos (by omega), hr]) ?_
    refine (Ev.const (dt_f hI) (Ev.ite_pos (by omega) (Ev.ite_pos (by simp only [ByteArray.size_append, lit1]; omega) (Ev.ite_pos (by simp only [ByteArray.size_append, lit1, lit2]; omega) ?_))))
    have e : x ++ (((⟨#[98]⟩ : ByteArray) ++ dt (i : Int)) ++ (⟨#[58, 10]⟩ : ByteArray)) = headT x i := by unfold headT; simp only [ByteArray.append_assoc]
    rw [e]
    exact l1
end
theorem okG_blk {zs : List Int} {p v s : Int} {bs : List S52} (h : Ok.okG zs p v s bs = true) : bs.length ≤ 300 ∧ Ok.stepsI bs ≤ 1000 ∧ ∀ b ∈ bs, ∀ x ∈ b.f0, x.f6.size ≤ 2 := by
  unfold Ok.okG at h
  simp only [Bool.and_eq_true] at h
  obtain ⟨_, _, hl, ha, hs⟩ := h
  refine ⟨by simp [inR] at hl; omega, of_decide_eq_true hs, fun b hb x hx => ?_⟩
  have hk := List.all_eq_true.1 ha b hb
  unfold Ok.blkOk Ok.blockB at hk
  split at hk
  · exact absurd hk (by simp)
  rename_i hany
  have h2 : ∀ y ∈ b.f0, instrB (zs.length : Int) s y.f0 y.f1 y.f2 y.f3 y.f4 y.f5 y.f6 = true := by
    intro y hy
    cases hz : instrB (zs.length : Int) s y.f0 y.f1 y.f2 y.f3 y.f4 y.f5 y.f6 with
    | true => rfl
    | false => exact absurd (List.any_eq_true.2 ⟨y, hy, by rw [hz]; rfl⟩) hany
  exact instr_text (h2 x hx)
theorem graph_same (zs : List Int) (p v s : Int) (ls : List S57) (hm : Small zs ls) (hw : ∀ x ∈ ls, W57 x) : ∃ R, Ev (fun k => spec_ShowGraph.f k zs p v s (ls.map convB)) R ∧ Ev (fun k => impl_ShowGraph.f k zs p v s (ls.map convB)) R := by
  have hb : (ls.map convB).length ≤ 1048576 := by rw [List.length_map]; exact hm.blocks
  have hst : Ok.stepsI (ls.map convB) ≤ 1048576 := by rw [Ok.stepsI_conv]; exact hm.steps
  have hS := Ok.GraphOk_ev zs p v s (ls.map convB) hb hm.sizes hst
  have hI := Ok.isGraph_ev zs p v s (ls.map convB) hb hst
  unfold impl_ShowGraph.f spec_ShowGraph.f
  cases hok : Ok.okG zs p v s (ls.map convB) with
  | true =>
    rw [hok] at hS hI
    obtain ⟨q1, q2, q3⟩ := okG_blk hok
    have hB : ∀ b ∈ ls.map convB, BlkI b := by
      intro b hb
      have hq := q3 b hb
      obtain ⟨x, hx, rfl⟩ := List.mem_map.1 hb
      obtain ⟨w0, w1, w2, w3, w4⟩ := hw x hx
      refine ⟨i64_wf w1, i64_wf w2, i64_wf w3, i64_wf w4, fun y hy => ?_⟩
      have hy2 := hq y hy
      obtain ⟨u, hu, rfl⟩ := List.mem_map.1 (show y ∈ x.f0.map conv from hy)
      obtain ⟨u0, u1, u2, u3, u4, u5, u6⟩ := w0.2 u hu
      exact ⟨i64_wf u0, i64_wf u1, i64_wf u2, i64_wf u3, i64_wf u4, i64_wf u5, hy2⟩
    have e0 : (⟨#[]⟩ : ByteArray).size = 0 := rfl
    have a1 := spec_l0 zs p v s (ls.map convB) hS hB q1 (ls.map convB).length 0 (⟨#[]⟩ : ByteArray) (by omega) (by rw [List.drop_zero]; exact q2) (by rw [List.drop_zero, e0]; omega)
    have a2 := impl_l0 (ls.map convB) hB q1 (ls.map convB).length 0 (⟨#[]⟩ : ByteArray) (by omega) (by rw [List.drop_zero]; exact q2) (by rw [List.drop_zero, e0]; omega)
    exact ⟨_, a1, Ev.bind hI (Ev.ite_pos rfl a2)⟩
  | false =>
    rw [hok] at hS hI
    refine ⟨(⟨#[]⟩ : ByteArray), ?_, Ev.bind hI (Ev.ite_neg (by decide) (Ev.now _))⟩
    by_cases h0 : (0 : Int) < ((ls.map convB).length : Int)
    · exact Ev.step (fun k => by rw [spec_ShowGraph.l0, if_pos h0]) (Ev.bind hS (Ev.step (fun k => by rw [spec_ShowGraph.j1, if_neg (by decide)]) (Ev.now _)))
    · exact Ev.step (fun k => by rw [spec_ShowGraph.l0, if_neg h0]) (Ev.step (fun k => by rw [spec_ShowGraph.j1, if_neg (by decide)]) (Ev.now _))
end Go.Proofs.YtbbpmcignfhfmaaDoor.Dec
