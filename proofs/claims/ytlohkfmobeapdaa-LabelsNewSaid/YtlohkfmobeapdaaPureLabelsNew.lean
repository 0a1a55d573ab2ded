/- For all lists of up to ten labels made from numbers, valid ones and others, New and Valid agree with the reference model: its pure statement. No condition. -/
import Derived.Test.YtlohkfmobeapdaaMNew
import Derived.Test.YtlohkfmobeapdaaPx10
namespace Go.Proofs.Ytlohkfmobeapdaa.Pure
open Go.RowKit Go.Proofs.Ytlohkfmobeapdaa.P Go.Proofs.YtlohkfmobeapdaaW.PrintWords Go.Proofs.YtlohkfmobeapdaaW.PrintLast Go.Proofs.YtlohkfmobeapdaaW.PrintMore
set_option linter.unusedVariables false
set_option linter.unusedSimpArgs false

theorem newR_len (l : List Lab) : (newR l).1.length ≤ 8 := by
  unfold newR
  split
  · simp
  · split
    · simp
    · rw [sortL_len]; omega

theorem LabelsNew : intervalmonlaw05_LabelsNew.Pure := by
  intro l _ _ hl
  refine Ev.rounds ?_
  obtain ⟨d, hd, ed⟩ := dirty_ev l hl
  unfold intervalmonlaw05_LabelsNew.f
  refine Ev.bind ed ?_
  simp only [new_eq, Option.bind_some]
  refine Ev.bind (refNew d) ?_
  simp only [if_true]
  refine Ev.bind (same_ev _ _ (by have := newR_len d; omega)) ?_
  simp only [decide_true, if_true]
  refine Ev.bind (valid_ev d) ?_
  refine Ev.bind (refValid_ev d) ?_
  simp only [beq_self_eq_true, if_true]
  by_cases h : (newR d).2 = 0
  · simp only [if_pos h]
    have hv := validB_set (newR_ok d h).1
    have := valid_ev (newR d).1
    rw [hv] at this
    refine Ev.bind this ?_
    simp only [if_true, lives05, Option.bind_some]
    exact Ev.some _
  · simp only [if_neg h, lives05, Option.bind_some]
    exact Ev.some _
end Go.Proofs.Ytlohkfmobeapdaa.Pure
