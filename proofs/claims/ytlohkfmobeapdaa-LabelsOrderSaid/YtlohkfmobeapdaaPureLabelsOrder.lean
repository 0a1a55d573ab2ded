/- For any three lists of labels made from numbers, Compare agrees with the reference model, is antisymmetric and transitive, and is 0 only for equal lists: its pure statement. No condition. -/
import Derived.Test.YtlohkfmobeapdaaMCmp
import Derived.Test.YtlohkfmobeapdaaMNames
import Derived.Test.YtlohkfmobeapdaaPx11
namespace Go.Proofs.Ytlohkfmobeapdaa.Pure
open Go.RowKit Go.Proofs.Ytlohkfmobeapdaa.P Go.Proofs.YtlohkfmobeapdaaW.PrintWords Go.Proofs.YtlohkfmobeapdaaW.PrintLast Go.Proofs.YtlohkfmobeapdaaW.PrintMore
set_option linter.unusedVariables false
set_option linter.unusedSimpArgs false

theorem LabelsOrder : intervalmonlaw05_LabelsOrder.Pure := by
  intro l m n _ _ hl _ _ hm _ _ hn
  refine Ev.rounds ?_
  obtain ⟨b, hb, eb⟩ := dirty_ev m hm
  have ea := set_ev l hl
  have ec := set_ev n hn
  have ha := setL_len l
  have hc := setL_len n
  generalize setL l = a at *
  generalize setL n = c at *
  unfold intervalmonlaw05_LabelsOrder.f
  refine Ev.bind ea ?_
  refine Ev.bind eb ?_
  refine Ev.bind ec ?_
  simp only [cmp_eq, Option.bind_some]
  refine Ev.bind (refCompare a b (by omega) (by omega)) ?_
  have w : ∀ x y : List Lab, wrap64 (-cmpLs x y) = cmpLs y x := fun x y => by
    rw [w64 _ (by have := cmpLs_rng x y; omega) (by have := cmpLs_rng x y; omega), ← cmpLs_anti]
  simp only [if_true, w]
  refine Ev.bind (refCompare a c (by omega) (by omega)) ?_
  simp only [if_true, bne_self_eq_false]
  have z0 := cmpLs_eq0 a c
  have x0 := cmpLs_eq0 a b
  have tail : Ev (fun k => intervalmonlaw05_LabelsOrder.j1 k a b c (cmpLs a b) (cmpLs a c) false) true := by
    refine Ev.up ?_
    simp only [intervalmonlaw05_LabelsOrder.j1]
    simp only [Bool.false_eq_true, if_false]
    refine Ev.bind (same_ev a c (by omega)) ?_
    simp only [show ((cmpLs a c == 0) == decide (a = c)) = true by rw [beq_iff_eq, Bool.eq_iff_iff, beq_iff_eq, decide_eq_true_eq]; exact z0, if_true]
    refine Ev.bind (same_ev a b (by omega)) ?_
    simp only [show ((cmpLs a b == 0) == decide (a = b)) = true by rw [beq_iff_eq, Bool.eq_iff_iff, beq_iff_eq, decide_eq_true_eq]; exact x0, if_true]
    simp only [cmp_eq, Option.bind_some, (cmpLs_eq0 a a).2 rfl, if_true, lives05]
    exact Ev.some _
  have t1 := cmpLs_trans a b c
  have t2 := ord3_Ls.trans' a b c
  generalize cmpLs a b = x at *
  generalize cmpLs a c = z at *
  generalize cmpLs b c = y at *
  refine Ev.up ?_
  simp only [intervalmonlaw05_LabelsOrder.j0]
  simp only [Bool.false_eq_true, if_false]
  by_cases h1 : x ≤ 0
  · by_cases h2 : y ≤ 0
    · simp only [if_pos h1, if_pos h2, show ¬ z > 0 by have := t1 h1 h2; omega, if_false]
      by_cases h3 : x ≥ 0
      · by_cases h4 : y ≥ 0
        · simp only [if_pos h3, if_pos h4, decide_eq_false (show ¬ z < 0 by have := t2 h3 h4; omega)]
          exact tail
        · simp only [if_pos h3, if_neg h4]; exact tail
      · simp only [if_neg h3]; exact tail
    · simp only [if_pos h1, if_neg h2]
      by_cases h3 : x ≥ 0
      · simp only [if_pos h3, if_pos (show y ≥ 0 by omega), decide_eq_false (show ¬ z < 0 by have := t2 h3 (by omega); omega)]
        exact tail
      · simp only [if_neg h3]; exact tail
  · simp only [if_neg h1, if_pos (show x ≥ 0 by omega)]
    by_cases h4 : y ≥ 0
    · simp only [if_pos h4, decide_eq_false (show ¬ z < 0 by have := t2 (by omega) h4; omega)]
      exact tail
    · simp only [if_neg h4]; exact tail
end Go.Proofs.Ytlohkfmobeapdaa.Pure
