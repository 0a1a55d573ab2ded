/- For all rotas made from numbers, any tick and level, OnDuty agrees with the reference model: its pure statement. No condition. -/
import Derived.Test.YtcamljlhdejmmaaMDuty
import Derived.Test.YtcamljlhdejmmaaMRotaGen
import Derived.Test.YtcamljlhdejmmaaMLives
import Derived.Test.YtcamljlhdejmmaaPx22
namespace Go.Proofs.Ytcamljlhdejmmaa.Pure
open Go.RowKit Go.Proofs.Ytcamljlhdejmmaa.P Go.Proofs.YtcamljlhdejmmaaW.PrintWords Go.Proofs.YtcamljlhdejmmaaW.PrintLast Go.Proofs.YtcamljlhdejmmaaW.PrintMore
set_option linter.unusedVariables false
set_option linter.unusedSimpArgs false
theorem duty_ev (p : Int) (l : List S50) (hl : l.length < 4398046511104) (tick level : Int) : Ev (fun k => intervalmonlaw29_duty.f k p l tick level) true := by
  unfold intervalmonlaw29_duty.f
  refine Ev.bind (shifts_ev l hl) ?_
  refine Ev.bind (duty_same p l tick level) ?_
  refine Ev.bind (refDuty p l tick level) ?_
  simp only [if_true, beq_self_eq_true]
  exact Ev.some _
theorem RouteDuty : intervalmonlaw29_RouteDuty.Pure := by
  intro l a1 a2 hm h8 hl h1 h2
  refine Ev.rounds ?_
  obtain ⟨p, s, hp, hp2, hs, -, hr⟩ := rota_gen l hl true
  obtain ⟨q, t, hq, hq2, ht, -, hr2⟩ := rota_gen l hl false
  unfold intervalmonlaw29_RouteDuty.f
  refine Ev.bind hr ?_
  refine Ev.bind hr2 ?_
  simp only [around a1 40 h1 (by decide), around a2 5 h2 (by decide), Option.bind_some]
  refine Ev.bind (duty_ev p s (by omega) _ _) ?_
  simp only [if_true]
  refine Ev.bind (duty_ev p s (by omega) _ _) ?_
  simp only [if_true]
  refine Ev.bind (duty_ev q t (by omega) _ _) ?_
  simp only [if_true]
  refine Ev.bind (duty_ev q t (by omega) _ _) ?_
  simp only [if_true]
  refine Ev.bind lives29 ?_
  exact Ev.some _
end Go.Proofs.Ytcamljlhdejmmaa.Pure
