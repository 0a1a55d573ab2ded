/- For all lists of alerts made from numbers and any names, Groups agrees with the reference model: its pure statement. No condition. -/
import Derived.Test.YtcamljlhdejmmaaMRefGroups
import Derived.Test.YtcamljlhdejmmaaMAlerts
import Derived.Test.YtcamljlhdejmmaaMLives
import Derived.Test.YtcamljlhdejmmaaPx10
namespace Go.Proofs.Ytcamljlhdejmmaa.Pure
open Go.RowKit Go.Proofs.Ytcamljlhdejmmaa.P Go.Proofs.YtcamljlhdejmmaaW.PrintWords Go.Proofs.YtcamljlhdejmmaaW.PrintLast Go.Proofs.YtcamljlhdejmmaaW.PrintMore
set_option linter.unusedVariables false
set_option linter.unusedSimpArgs false

theorem alert_row {l : List S73} (h : ∀ a ∈ l, AlertOk a) : ∀ a ∈ l, a.f2.length ≤ 6 := by
  intro a ha
  obtain ⟨_, _, _, _, _, L, e⟩ := h a ha
  rw [e]; exact setL_len L
theorem RouteGroups : ∀ (x0 : (List Int)) (x1 : (List ByteArray)) (a2 : Int), (x0.length ≤ maxLen ∧ x0.length * 8 ≤ 140737488351232 ∧ ∀ x ∈ x0, (Lit.int .i64 x).wf = true) → (x1.length ≤ maxLen ∧ x1.length * 16 ≤ 140737488351232 ∧ ∀ x ∈ x1, x.size ≤ 140737488351232) → (Lit.int .i64 a2).wf = true → ∃ k, intervalmonlaw29_RouteGroups.f k x0 x1 a2 = some true := by
  intro l names which hl hn hw
  refine Ev.rounds ?_
  obtain ⟨a, ea, la, oa⟩ := alerts_ev l hl.2.2
  have ra : ∀ x ∈ a, x.f2.length ≤ 1000 := fun x hx => Nat.le_trans (alert_row oa x hx) (by decide)
  have lf := fewL_len names which
  obtain ⟨K, hK, k1, k2⟩ := groups_both a (fewL names which) la (by omega) ra
  obtain ⟨J, hJ, j1, j2⟩ := groups_both a [] la (by decide) ra
  have cK := canon_len hK
  have cJ := canon_len hJ
  unfold intervalmonlaw29_RouteGroups.f
  refine Ev.bind ea ?_
  refine Ev.bind (few_ev names which hw) ?_
  simp only [k1, Option.bind_some]
  refine Ev.bind k2 ?_
  refine Ev.bind (sameGroups_ev _ (by omega) (fun x hx => Nat.le_trans (canon_row x hx) (by omega))) ?_
  simp only [if_true, j1, Option.bind_some]
  refine Ev.bind j2 ?_
  refine Ev.bind (sameGroups_ev _ (by omega) (fun x hx => Nat.le_trans (canon_row x hx) (by omega))) ?_
  simp only [if_true]
  exact Ev.bind lives29 (Ev.some _)
end Go.Proofs.Ytcamljlhdejmmaa.Pure
