/- slices.Delete at a row of steps of one's own: one step is taken out, in place. Condition: the place is within the row. -/
import Derived.Test.YtcbpbnkoolpibaaMClean0a
import Derived.Deep.RegionLaw
import Derived.Laws.IdiomCopy
set_option maxHeartbeats 8000000
set_option maxRecDepth 100000
set_option linter.unusedVariables false
set_option linter.unusedSimpArgs false
namespace Go.Proofs.Ytcbpbnkoolpibaa.P
open RowKit YtcbpbnkoolpibaaW.wA YtcbpbnkoolpibaaW.wB YtcbpbnkoolpibaaW.wC Aux
theorem R_tail {α : Type} {d : Kd α} {e base g n c off : Nat} {ok : Nat → Prop} {W : World} {xs : List α} {vs : List Value} (HO : d.R e W base ok (.slice (some ⟨g, 0, none⟩) n c) xs) (h1 : n * d.sz ≤ off) (h2 : off + vs.length ≤ c * d.sz) :
    d.R e (W.setCells g off vs) base ok (.slice (some ⟨g, 0, none⟩) n c) xs ∧ W.grownBy (W.setCells g off vs) (some g) ∧ base ≤ g ∧ ∃ cur, W.heap[g]? = some (.cells cur e (0, 0)) ∧ cur.size = c * d.sz := by
  obtain ⟨hn, hnc, _⟩ := Kd.R_reads' HO
  obtain ⟨hok, inner, hown, hr⟩ := HO
  rcases hown.2 with ⟨hv, _⟩ | ⟨g', cap', cur, hv, hb, hh, h7, hcm, hcs, htake⟩
  · cases hv
  injection hv with ha _ hc
  injection ha with ha
  injection ha with hg
  subst hg; subst hc
  obtain ⟨cur', h3, h4, h5⟩ := setCells_row vs off W cur hh (by omega)
  obtain ⟨s1, s2, s3, s4⟩ := setCells_same g vs off W
  have hfar : ∀ k', k' ≠ g → (W.setCells g off vs).heap[k']? = W.heap[k']? := fun k' hk' => setCells_far vs _ k' hk'
  refine ⟨⟨hok, inner, ⟨hown.1, .inr ⟨g, c, cur', by rw [hn], hb, h3, h7, hcm, by rw [h4, hcs], ?_⟩⟩, ?_⟩, ⟨s1, s2, s3, by rw [s4]; exact Nat.le_refl _, fun k' _ hk' => hfar k' (fun he => hk' (by rw [he]))⟩, hb, cur, hh, hcs⟩
  · rw [← hn] at htake ⊢
    rw [h5, List.append_assoc, List.take_append_of_le_length (by rw [List.length_take, Array.length_toList]; omega), List.take_take, Nat.min_eq_left h1]
    exact htake
  · exact hr.imp_ fun p q hp => d.M_move (fun k' hk' => hfar k' (fun he => hk'.2 (by rw [he]; simp [Value.ownBlock]))) hp
def zI : List Value := [.int .i64 0, .int .i64 0, .int .i64 0, .int .i64 0, .int .i64 0, .int .i64 0, .string ⟨#[]⟩]
theorem clear_one (W : World) (g o c ty : Nat) (hc : ∀ j, j < 7 → (W.cell? ⟨g, o + j, none⟩).isSome = true) (hf : ∀ j, j < 7 → W.frozen? ⟨g, o + j, none⟩ = false) :
    (Builtin.clear_ #[45] ty #[.slice (some ⟨g, o, none⟩) 1 c]).run Try.prog W = .ok (.tuple #[]) (W.setCells g o zI) := by
  have hst := run_storeCells_cells (P := Try.prog) g o zI 0 W (by simpa [zI] using hc) (by simpa [zI] using hf) (by intro v hv; simp only [zI, List.mem_cons, List.not_mem_nil, or_false] at hv; rcases hv with rfl | rfl | rfl | rfl | rfl | rfl | rfl <;> rfl)
  simp only [Nat.add_zero] at hst
  have hz : ∀ w, (zeroValue 57).run Try.prog w = .ok (.agg #[.int .i64 0, .int .i64 0, .int .i64 0, .int .i64 0, .int .i64 0, .int .i64 0, .string ⟨#[]⟩]) w := Try.zeroValue57
  have hzc : (Builtin.zeroCells (Value.agg #[.int .i64 0, .int .i64 0, .int .i64 0, .int .i64 0, .int .i64 0, .int .i64 0, .string ⟨#[]⟩]).cells 1).toList = zI := by kernel_rfl
  simp [Builtin.clear_, run_underlying Try.underlying45, hz, hzc, hst]
theorem delete_walk (P : Nat → Prop) (g c n : Nat) (kk jj : Int) (xs : List S57) (w0 w : World) (hB : Below w0.heap.size w0 w) (hR : Kd.R k57 57 w w0.heap.size P (.slice (some ⟨g, 0, none⟩) n c) xs) (h0 : 0 ≤ kk) (h1 : kk < (n : Int)) (hj : jj = kk + 1) :
    Calls Try.prog 46 #[.slice (some ⟨g, 0, none⟩) n c, .int .i64 kk, .int .i64 jj] w fun e w' => e = .returned (.slice (some ⟨g, 0, none⟩) (n - 1) c) ∧ Kd.R k57 57 w' w0.heap.size P (.slice (some ⟨g, 0, none⟩) (n - 1) c) (xs.eraseIdx kk.toNat) ∧ Below w0.heap.size w0 w' ∧ Kept w w' (fun q => q = g) := by
  have HR := Zs0.mk hR
  have HB := Zs0.mk hB
  have hnc : n ≤ c := (Kd.R_reads' hR).2.1
  have HNC := Zs0.mk hnc
  have HJ := Zs0.mk hj
  have H01 := Zs0.mk (show 0 ≤ kk ∧ kk < (n : Int) from ⟨h0, h1⟩)
  have p0 : (0 ≤ kk) = True := eq_true h0
  have p1 : (kk ≤ (n : Int)) = True := eq_true (by omega)
  have p2 : (0 ≤ jj) = True := eq_true (by omega)
  have p3 : (jj ≤ (n : Int)) = True := eq_true (by omega)
  have p4 : (kk ≤ jj) = True := eq_true (by omega)
  have p5 : (jj ≤ (c : Int)) = True := eq_true (by omega)
  have p6 : ((n : Int) ≤ (c : Int)) = True := eq_true (by omega)
  have p7 : (kk ≤ (c : Int)) = True := eq_true (by omega)
  have e0 : (kk == jj) = false := beq_eq_false_iff_ne.mpr (by omega)
  have p8 : (n = kk.toNat) = False := eq_false (by omega)
  have hkn : kk.toNat < n := by omega
  have hjt : jj.toNat = kk.toNat + 1 := by omega
  have HKN := Zs0.mk hkn
  have HJT := Zs0.mk hjt
  have HINFO : (Try.prog.info? 57).map (·.size) = some (k57).sz := by kernel_rfl
  obtain ⟨A, hA1, hA2⟩ : ∃ A, (A = if c = kk.toNat + 1 then some ⟨g, 0, none⟩ else (some (⟨g, 0, none⟩ : Addr)).map (·.add ((kk.toNat + 1) * (k57).sz))) ∧ (if c = jj.toNat then some (⟨g, 0, none⟩ : Addr) else some ⟨g, jj.toNat * 7, none⟩) = A := by
    refine ⟨_, rfl, ?_⟩
    rw [hjt, Option.map_some, add_plain, show (k57).sz = 7 from rfl]
  have HA1 := Zs0.mk hA1
  clear hR hB hnc hj h0 h1 hkn hjt hA1
  go_enter Try.func46, Try.ntmps46
  go_wp2_with fail
  go_region_law (refine Kd.R_delete_step k57 (w0 := w0) w0.heap.size rfl (.tmp 22) (.tmp 25) 45 57 rfl Try.underlying45 HINFO (g := g) (k := kk.toNat) (n := n) (c := c) (m := n - jj.toNat) (c2 := c - jj.toNat) (A := A) (by simp [Act.eval, Act.put]) (by simp [Act.eval, Act.put, hA2]) HA1.out (by rw [HJT.out]) (Kd.rD2 HR.out) HKN.out (bl1 HB.out) HB.out.size ?_; intro w1 hr1 hb1 hg1)
  have hm0 := HKN.out
  have hc0 := HNC.out
  obtain ⟨m, hm⟩ : ∃ m, m = n - 1 := ⟨_, rfl⟩
  have hmc : m * 7 + 7 ≤ c * 7 := by omega
  rw [← hm] at hr1 ⊢
  obtain ⟨t1, t2, t3, cur, t4, t5⟩ := R_tail (off := m * 7) (vs := zI) hr1 (Nat.le_refl _) (by show m * 7 + 7 ≤ c * 7; exact hmc)
  rw [show c * (k57).sz = c * 7 from rfl] at t5
  have hnm : n - m = 1 := by omega
  have hcl : ∀ ty, (Builtin.clear_ #[45] ty #[.slice (some ⟨g, m * 7, none⟩) (n - m) (c - m)]).run Try.prog w1 = .ok (.tuple #[]) (w1.setCells g (m * 7) zI) := fun ty => by
    rw [hnm]
    exact clear_one w1 g (m * 7) (c - m) ty (fun j hj => by rw [bkC t4, Array.getElem?_eq_getElem (by omega)]; rfl) (fun j hj => blk_frozen t4 _)
  have HT1 := Zs0.mk t1
  have HT2 := Zs0.mk t2
  have HB1 := Zs0.mk hb1
  have HG1 := Zs0.mk hg1
  have HT3 := Zs0.mk t3
  have q1 : (0 ≤ (m : Int)) = True := eq_true (by omega)
  have q2 : ((m : Int) ≤ (n : Int)) = True := eq_true (by omega)
  have q3 : (c = m) = False := eq_false (by omega)
  have q4 : ((m : Int) ≤ (c : Int)) = True := eq_true (by omega)
  have HMN := Zs0.mk hm
  clear hr1 hb1 hg1 t1 t2 t3 t4 t5 hm0 hc0 hmc hm hnm
  go_wp2
  go_ret
  rw [← HMN.out]
  exact ⟨rfl, HT1.out, HB1.out.grown HT2.out HB1.out.size (fun q hq => by injection hq with hq; subst hq; exact HT3.out), Kept.of_grown HT2.out (Kept.of_grown HG1.out (Kept.drew (Kept.refl w (fun q => q = g))) fun q hq => .inl (by injection hq with hq; exact hq.symm)) fun q hq => .inl (by injection hq with hq; exact hq.symm)⟩
end Go.Proofs.Ytcbpbnkoolpibaa.P
