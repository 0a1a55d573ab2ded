/- For all integers num and den, New agrees with the reference, its results are valid, and Valid holds exactly for the fractions that New maps to themselves: its pure statement. No condition. -/
import Derived.Test.YtjpgommmkjgddaaDoorMLives3
import Derived.Test.YtjpgommmkjgddaaDoorPx12
namespace Go.Proofs.YtjpgommmkjgddaaDoor.Pure
open Go.RowKit Go.Proofs.YtjpgommmkjgddaaDoor.P Go.Proofs.YtjpgommmkjgddaaDoorW.PrintWords Go.Proofs.YtjpgommmkjgddaaDoorW.PrintLast Go.Proofs.YtjpgommmkjgddaaDoorW.PrintMore
set_option linter.unusedVariables false
set_option linter.unusedSimpArgs false
theorem valid_bd {n d : Int} (h : ValidP n d) : (-9223372036854775808 ≤ n ∧ n ≤ 9223372036854775807) ∧ -9223372036854775808 ≤ d ∧ d ≤ 9223372036854775807 := by
  obtain ⟨h1, h2, h3, _⟩ := h
  omega
theorem FracNew : ∀ (a0 : Int) (a1 : Int), (Lit.int .i64 a0).wf = true → (Lit.int .i64 a1).wf = true → ∃ k, intervalmonlaw03_FracNew.f k a0 a1 = some true := by
  intro n d hn hd
  have hn := wf64 hn
  have hd := wf64 hd
  refine Ev.rounds ?_
  unfold intervalmonlaw03_FracNew.f
  refine Ev.bind (new_ev n d hn hd) ?_
  refine Ev.bind (refNew_ev n d hn hd) ?_
  simp only [beq_self_eq_true, Bool.and_self, if_true]
  refine Ev.bind (valid_ev n d hn hd) ?_
  have hv := valid_iff n d
  by_cases h : (newF n d).2.2 = 0
  · have hx := new_valid h
    have hb := valid_bd hx
    rw [decide_eq_true h, Bool.true_and] at hv
    simp only [h, if_true, hv, beq_self_eq_true]
    refine Ev.bind (valid_ev _ _ hb.1 hb.2) ?_
    rw [decide_eq_true hx]
    simp only [if_true]
    exact Ev.bind lives03 (Ev.some _)
  · rw [decide_eq_false h, Bool.false_and] at hv
    simp only [h, if_false, hv, beq_self_eq_true, if_true]
    exact Ev.bind lives03 (Ev.some _)
end Go.Proofs.YtjpgommmkjgddaaDoor.Pure
