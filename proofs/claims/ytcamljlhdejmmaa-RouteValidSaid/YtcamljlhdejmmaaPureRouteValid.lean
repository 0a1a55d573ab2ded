/- For all graphs made from numbers, and graphs with any number of nodes and one edge, Valid agrees with the reference model: its pure statement. No condition. -/
import Derived.Test.YtcamljlhdejmmaaMAny
import Derived.Test.YtcamljlhdejmmaaMLives
import Derived.Test.YtcamljlhdejmmaaPx12
namespace Go.Proofs.Ytcamljlhdejmmaa.Pure
open Go.RowKit Go.Proofs.Ytcamljlhdejmmaa.P Go.Proofs.YtcamljlhdejmmaaW.PrintWords Go.Proofs.YtcamljlhdejmmaaW.PrintLast Go.Proofs.YtcamljlhdejmmaaW.PrintMore
set_option linter.unusedVariables false
set_option linter.unusedSimpArgs false
theorem RouteValid : intervalmonlaw29_RouteValid.Pure := by
  intro l a1 a2 a3 hm h8 hl h1 h2 h3
  refine Ev.rounds ?_
  obtain ⟨n, E, hn, hE, he⟩ := any_gen l (by omega) hl
  obtain ⟨r0, r1, r2, -⟩ := valid_both (n : Int) E (by omega)
  obtain ⟨s0, s1, s2, -⟩ := valid_both a1 [(⟨a2, a3⟩ : S27)] (by simp)
  obtain ⟨t0, t1, t2, -⟩ := valid_both (arn a1 210) [(⟨arn a2 210, arn a3 210⟩ : S27)] (by simp)
  unfold intervalmonlaw29_RouteValid.f
  refine Ev.bind he ?_
  simp only [intervalmonlaw29_graph.f, Option.bind_some, around a1 210 h1 (by decide), around a2 210 h2 (by decide), around a3 210 h3 (by decide)]
  refine Ev.bind r1 (Ev.bind r2 ?_)
  simp only [if_true]
  refine Ev.bind s1 (Ev.bind s2 ?_)
  simp only [if_true]
  refine Ev.bind t1 (Ev.bind t2 ?_)
  simp only [if_true]
  exact Ev.bind lives29 (Ev.some _)
end Go.Proofs.Ytcamljlhdejmmaa.Pure
