/- For all rotas made from numbers, valid ones and others, and for any period and one shift, ValidRota agrees with the reference model: its pure statement. No condition. -/
import Derived.Test.YtcamljlhdejmmaaMRotaGen
import Derived.Test.YtcamljlhdejmmaaMLives
import Derived.Test.YtcamljlhdejmmaaPx21
namespace Go.Proofs.Ytcamljlhdejmmaa.Pure
open Go.RowKit Go.Proofs.Ytcamljlhdejmmaa.P Go.Proofs.YtcamljlhdejmmaaW.PrintWords Go.Proofs.YtcamljlhdejmmaaW.PrintLast Go.Proofs.YtcamljlhdejmmaaW.PrintMore
set_option linter.unusedVariables false
set_option linter.unusedSimpArgs false

theorem short_some (a : ByteArray) (m : Int) (hm : 0 ≤ m) : ∃ b, intervalmonref01_Short.f a m = some b := by
  unfold intervalmonref01_Short.f
  by_cases h : (a.size : Int) > m
  · rw [if_pos h, if_pos hm, if_pos (by omega)]; exact ⟨_, rfl⟩
  · rw [if_neg h]; exact ⟨_, rfl⟩

theorem RouteRota : intervalmonlaw29_RouteRota.Pure := by
  intro l a1 a2 a3 a4 hm h8 hl h1 h2 h3 h4
  refine Ev.rounds ?_
  obtain ⟨p, s, hp, hp2, hs, -, hr⟩ := rota_gen l hl true
  obtain ⟨b, hb⟩ := short_some a2 20 (by decide)
  unfold intervalmonlaw29_RouteRota.f
  refine Ev.bind hr ?_
  simp only [hb, Option.bind_some, List.length_cons, List.length_nil, show ((0 : Int) < ((0 + 1 : Nat) : Int)) from by decide, if_true, rd_T50, show ((0 : Int)).toNat = 0 from rfl, List.getD_cons_zero]
  refine Ev.bind (shifts_ev s (by omega)) ?_
  refine Ev.bind (rota_same p s) ?_
  refine Ev.bind (refRota p s) ?_
  simp only [if_true]
  refine Ev.bind (shifts_ev _ (by simp)) ?_
  refine Ev.bind (rota_same a1 _) ?_
  refine Ev.bind (refRota a1 _) ?_
  simp only [bne_self_eq_false]
  refine Ev.up ?_
  simp only [intervalmonlaw29_RouteRota.j0, Bool.false_eq_true, if_false]
  refine Ev.bind (shifts_ev _ (by simp)) ?_
  refine Ev.bind (rota_same a1 _) ?_
  refine Ev.bind (refRota a1 _) ?_
  simp only [if_true]
  refine Ev.bind lives29 ?_
  exact Ev.some _
end Go.Proofs.Ytcamljlhdejmmaa.Pure
