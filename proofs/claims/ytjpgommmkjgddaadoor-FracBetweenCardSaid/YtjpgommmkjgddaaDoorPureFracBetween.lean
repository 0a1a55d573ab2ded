/- For every two small fractions a < b, the fraction of the sums of their numerators and denominators lies strictly between them: its pure statement. No condition. -/
import Derived.Test.YtjpgommmkjgddaaDoorMLives3
import Derived.Test.YtjpgommmkjgddaaDoorMRep
import Derived.Test.YtjpgommmkjgddaaDoorPx13
namespace Go.Proofs.YtjpgommmkjgddaaDoor.Pure
open Go.RowKit Go.Proofs.YtjpgommmkjgddaaDoor.P Go.Proofs.YtjpgommmkjgddaaDoorW.PrintWords Go.Proofs.YtjpgommmkjgddaaDoorW.PrintLast Go.Proofs.YtjpgommmkjgddaaDoorW.PrintMore
set_option linter.unusedVariables false
set_option linter.unusedSimpArgs false
theorem FracBetween : ∀ (a0 : Int) (a1 : Int), (Lit.int .i64 a0).wf = true → (Lit.int .i64 a1).wf = true → ∃ k, intervalmonlaw03_FracBetween.f k a0 a1 = some true := by
  intro p q hp hq
  refine Ev.rounds ?_
  obtain ⟨a, b, e1, v1, a1, b1⟩ := middle_ev p (wf64 hp)
  obtain ⟨c, d, e2, v2, c1, d1⟩ := middle_ev q (wf64 hq)
  have b0 := v1.1
  have d0 := v2.1
  have ra := v1.rep
  have rc := v2.rep
  unfold intervalmonlaw03_FracBetween.f
  refine Ev.bind e1 (Ev.bind e2 ?_)
  simp only []
  rw [w64 (a + c) (by omega) (by omega), w64 (b + d) (by omega) (by omega)]
  refine Ev.bind (new_ev (a + c) (b + d) ⟨by omega, by omega⟩ ⟨by omega, by omega⟩) ?_
  rw [new_low _ _ (by omega) ⟨by omega, by omega⟩ (by omega) (by omega)]
  have ok := lowS_ok (a + c) (b + d) (by omega) (by omega)
  have rm := lowS_rep (a + c) (b + d) (by omega) ok
  simp only [ok, if_true]
  have im := rm.in64
  have ia := ra.in64
  have ic := rc.in64
  refine Ev.bind (compare_ev a b _ _ ia.1 ia.2 im.1 im.2) ?_
  refine Ev.bind (compare_ev a b c d ia.1 ia.2 ic.1 ic.2) ?_
  rw [cmpF_rep ra rm, cmpF_rep ra rc]
  have k1 : cmpZ (a * (b + d)) ((a + c) * b) = cmpZ (a * d) (c * b) := by
    rw [← cmpZ_add (a * d) (c * b) (a * b)]
    congr 1 <;> grind
  have k2 : cmpZ ((a + c) * d) (c * (b + d)) = cmpZ (a * d) (c * b) := by
    rw [← cmpZ_add (a * d) (c * b) (c * d)]
    congr 1 <;> grind
  rw [k1]
  simp only [if_true]
  refine Ev.bind (compare_ev _ _ c d im.1 im.2 ic.1 ic.2) ?_
  refine Ev.bind (compare_ev a b c d ia.1 ia.2 ic.1 ic.2) ?_
  rw [cmpF_rep rm rc, cmpF_rep ra rc, k2]
  simp only [if_true]
  exact Ev.bind lives03 (Ev.some _)
end Go.Proofs.YtjpgommmkjgddaaDoor.Pure
