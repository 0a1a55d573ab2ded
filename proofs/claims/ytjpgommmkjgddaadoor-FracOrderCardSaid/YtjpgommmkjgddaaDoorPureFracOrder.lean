/- For every three fractions of any size, Compare is transitive and 0 exactly for equal fractions; adding c to both, or multiplying both by a positive c, keeps the order wherever the results are in range: its pure statement. No condition. -/
import Derived.Test.YtjpgommmkjgddaaDoorMLives3
import Derived.Test.YtjpgommmkjgddaaDoorMOf
import Derived.Test.YtjpgommmkjgddaaDoorHRec
import Derived.Test.YtjpgommmkjgddaaDoorPx16
namespace Go.Proofs.YtjpgommmkjgddaaDoor.Pure
open Go.RowKit Go.Proofs.YtjpgommmkjgddaaDoor.P Go.Proofs.YtjpgommmkjgddaaDoorW.PrintWords Go.Proofs.YtjpgommmkjgddaaDoorW.PrintLast Go.Proofs.YtjpgommmkjgddaaDoorW.PrintMore
set_option linter.unusedVariables false
set_option linter.unusedSimpArgs false
theorem cmpZ_zero (x y : Int) : (cmpZ x y == 0) = decide (x = y) := by
  unfold cmpZ
  by_cases h : x < y
  · rw [if_pos h, decide_eq_false (by omega)]; rfl
  · rw [if_neg h]
    by_cases h2 : x = y
    · rw [if_pos h2, decide_eq_true h2]; rfl
    · rw [if_neg h2, decide_eq_false h2]; rfl
theorem cmpZ_le (x y : Int) : cmpZ x y ≤ 0 ↔ x ≤ y := by
  unfold cmpZ
  by_cases h : x < y
  · rw [if_pos h]; omega
  · rw [if_neg h]
    by_cases h2 : x = y
    · rw [if_pos h2]; omega
    · rw [if_neg h2]; omega
theorem cmp_trans {a b c d e f : Int} (hb : 0 < b) (hd : 0 < d) (hf : 0 < f) (h1 : a * d ≤ c * b) (h2 : c * f ≤ e * d) : a * f ≤ e * b := by
  have e1 : a * d * f ≤ c * b * f := Int.mul_le_mul_of_nonneg_right h1 (by omega)
  have e2 : c * f * b ≤ e * d * b := Int.mul_le_mul_of_nonneg_right h2 (by omega)
  have e3 : a * f * d ≤ e * b * d := by
    have x1 : a * d * f = a * f * d := by grind
    have x2 : c * b * f = c * f * b := by grind
    have x3 : e * d * b = e * b * d := by grind
    omega
  exact Int.le_of_mul_le_mul_right e3 hd
/-- Adding the same to both keeps the order, multiplying by a positive one does. -/
theorem cmp_add (a b c d e f : Int) (hb : 0 < b) (hd : 0 < d) (hf : 0 < f) : cmpZ ((a * f + e * b) * (d * f)) ((c * f + e * d) * (b * f)) = cmpZ (a * d) (c * b) := by
  have p : 0 < f * f := Int.mul_pos hf hf
  rw [← cmpZ_mul (a * d) (c * b) (f * f) p, ← cmpZ_add (a * d * (f * f)) (c * b * (f * f)) (e * b * d * f)]
  congr 1 <;> grind
theorem cmp_mul (a b c d e f : Int) (he : 0 < e) (hf : 0 < f) : cmpZ (a * e * (d * f)) (c * e * (b * f)) = cmpZ (a * d) (c * b) := by
  have p : 0 < e * f := Int.mul_pos he hf
  rw [← cmpZ_mul (a * d) (c * b) (e * f) p]
  congr 1 <;> grind
theorem FracOrder_j1 (a b c d e f : Int) (v1 : ValidP a b) (v2 : ValidP c d) (v3 : ValidP e f) : Ev (fun k => intervalmonlaw03_FracOrder.j1 k (cmpZ (a * d) (c * b)) false a b c d e f) true := by
  have r1 := v1.rep
  have r2 := v2.rep
  have r3 := v3.rep
  have i1 := r1.in64
  have i2 := r2.in64
  have i3 := r3.in64
  refine Ev.up ?_
  simp only [intervalmonlaw03_FracOrder.j1, Bool.false_eq_true, if_false]
  refine Ev.bind (mul_ev a b e f i1.1 i1.2 i3.1 i3.2) ?_
  refine Ev.bind (mul_ev c d e f i2.1 i2.2 i3.1 i3.2) ?_
  by_cases h1 : (mulF a b e f).2.2 = 0
  · by_cases h2 : (mulF c d e f).2.2 = 0
    · simp only [h1, h2, if_true]
      by_cases h3 : e ≤ 0
      · simp only [h3, if_true]
        exact Ev.bind lives03 (Ev.some _)
      · simp only [h3, if_false]
        have x1 := mul_low a b e f v1 v3 h1
        have x2 := mul_low c d e f v2 v3 h2
        refine Ev.bind (compare_ev _ _ _ _ x1.in64.1 x1.in64.2 x2.in64.1 x2.in64.2) ?_
        rw [cmpF_rep x1 x2, cmp_mul a b c d e f (by omega) r3.pos]
        simp only [if_true]
        exact Ev.bind lives03 (Ev.some _)
    · simp only [h1, h2, if_true, if_false]
      exact Ev.bind lives03 (Ev.some _)
  · simp only [h1, if_false]
    exact Ev.bind lives03 (Ev.some _)
theorem FracOrder_j0 (a b c d e f : Int) (v1 : ValidP a b) (v2 : ValidP c d) (v3 : ValidP e f) : Ev (fun k => intervalmonlaw03_FracOrder.j0 k (cmpZ (a * d) (c * b)) false a b c d e f) true := by
  have r1 := v1.rep
  have r2 := v2.rep
  have r3 := v3.rep
  have i1 := r1.in64
  have i2 := r2.in64
  have i3 := r3.in64
  refine Ev.up ?_
  simp only [intervalmonlaw03_FracOrder.j0, Bool.false_eq_true, if_false]
  refine Ev.bind (add_ev a b e f i1.1 i1.2 i3.1 i3.2) ?_
  refine Ev.bind (add_ev c d e f i2.1 i2.2 i3.1 i3.2) ?_
  by_cases h1 : (addF a b e f).2.2 = 0
  · by_cases h2 : (addF c d e f).2.2 = 0
    · simp only [h1, h2, if_true]
      have x1 := add_rep a b e f v1 v3 h1
      have x2 := add_rep c d e f v2 v3 h2
      refine Ev.bind (compare_ev _ _ _ _ x1.in64.1 x1.in64.2 x2.in64.1 x2.in64.2) ?_
      rw [cmpF_rep x1 x2, cmp_add a b c d e f r1.pos r2.pos r3.pos, bne_self_eq_false]
      exact FracOrder_j1 a b c d e f v1 v2 v3
    · simp only [h1, h2, if_true, if_false]
      exact FracOrder_j1 a b c d e f v1 v2 v3
  · simp only [h1, if_false]
    exact FracOrder_j1 a b c d e f v1 v2 v3
theorem FracOrder_main (a0 a1 a2 a3 a4 a5 : Int) (w0 : In64 a0) (w1 : In64 a1) (w2 : In64 a2) (w3 : In64 a3) (w4 : In64 a4) (w5 : In64 a5) : Ev (fun k => intervalmonlaw03_FracOrder.f k a0 a1 a2 a3 a4 a5) true := by
  obtain ⟨a, b, e1, v1⟩ := of_ev a0 a1 w0 w1
  obtain ⟨c, d, e2, v2⟩ := of_ev a2 a3 w2 w3
  obtain ⟨e, f, e3, v3⟩ := of_ev a4 a5 w4 w5
  have r1 := v1.rep
  have r2 := v2.rep
  have r3 := v3.rep
  have i1 := r1.in64
  have i2 := r2.in64
  have i3 := r3.in64
  unfold intervalmonlaw03_FracOrder.f
  refine Ev.bind e1 (Ev.bind e2 (Ev.bind e3 ?_))
  simp only []
  refine Ev.bind (compare_ev a b c d i1.1 i1.2 i2.1 i2.2) ?_
  rw [cmpF_rep r1 r2]
  have hz : ((cmpZ (a * d) (c * b) == 0) != (a == c && b == d)) = false := by
    rw [cmpZ_zero, bne_eq_false_iff_eq, Bool.eq_iff_iff, decide_eq_true_iff, Bool.and_eq_true, beq_iff_eq, beq_iff_eq]
    exact ⟨fun h => frac_unique v1 v2 h, fun h => by rw [h.1, h.2]⟩
  simp only [hz, Bool.false_eq_true, if_false]
  have main := FracOrder_j0 a b c d e f v1 v2 v3
  by_cases h1 : cmpZ (a * d) (c * b) ≤ 0
  · simp only [h1, if_true]
    refine Ev.bind (compare_ev c d e f i2.1 i2.2 i3.1 i3.2) ?_
    rw [cmpF_rep r2 r3]
    by_cases h2 : cmpZ (c * f) (e * d) ≤ 0
    · simp only [h2, if_true]
      refine Ev.bind (compare_ev a b e f i1.1 i1.2 i3.1 i3.2) ?_
      rw [cmpF_rep r1 r3]
      have h3 : ¬ (cmpZ (a * f) (e * b) > 0) := by
        have := (cmpZ_le (a * f) (e * b)).2 (cmp_trans r1.pos r2.pos r3.pos ((cmpZ_le _ _).1 h1) ((cmpZ_le _ _).1 h2))
        omega
      simp only [h3, decide_false]
      exact main
    · simp only [h2, if_false]
      exact main
  · simp only [h1, if_false]
    exact main
theorem FracOrder : ∀ (x0 : S52), ((Lit.int .i64 x0.f0).wf = true ∧ (Lit.int .i64 x0.f1).wf = true ∧ (Lit.int .i64 x0.f2).wf = true ∧ (Lit.int .i64 x0.f3).wf = true ∧ (Lit.int .i64 x0.f4).wf = true ∧ (Lit.int .i64 x0.f5).wf = true) → ∃ k, intervalmonlaw03_FracOrder.f k x0.f0 x0.f1 x0.f2 x0.f3 x0.f4 x0.f5 = some true := by
  intro x h
  exact Ev.rounds (FracOrder_main _ _ _ _ _ _ (wf64 h.1) (wf64 h.2.1) (wf64 h.2.2.1) (wf64 h.2.2.2.1) (wf64 h.2.2.2.2.1) (wf64 h.2.2.2.2.2))
end Go.Proofs.YtjpgommmkjgddaaDoor.Pure
