/- For all graphs made from numbers and lists of firing nodes of the right and of another length, Inhibited agrees with the reference model: its pure statement. No condition. -/
import Derived.Test.YtcamljlhdejmmaaMAny
import Derived.Test.YtcamljlhdejmmaaMInh
import Derived.Test.YtcamljlhdejmmaaMLives
import Derived.Test.YtcamljlhdejmmaaPx15
namespace Go.Proofs.Ytcamljlhdejmmaa.Pure
open Go.RowKit Go.Proofs.Ytcamljlhdejmmaa.P Go.Proofs.YtcamljlhdejmmaaW.PrintWords Go.Proofs.YtcamljlhdejmmaaW.PrintLast Go.Proofs.YtcamljlhdejmmaaW.PrintMore
set_option linter.unusedVariables false
set_option linter.unusedSimpArgs false
theorem same_loop (r : List Bool) (hr : r.length ≤ 200) (d : Nat) : ∀ i : Nat, i + d = r.length → Ev (fun k => intervalmonref29_SameBools.l0 k r r (i : Int)) true := by
  induction d with
  | zero =>
    intro i hi
    refine Ev.up ?_
    simp only [intervalmonref29_SameBools.l0]
    simp only [show ¬ ((i : Int) < (r.length : Int)) by omega, if_false]
    exact Ev.some _
  | succ d ih =>
    intro i hi
    refine Ev.up ?_
    simp only [intervalmonref29_SameBools.l0]
    simp only [show ((i : Int) < (r.length : Int)) by omega, if_true, Int.natCast_nonneg, bne_self_eq_false, Bool.false_eq_true, if_false, w64s i (by omega)]
    exact ih (i + 1) (by omega)
theorem same_ev (r : List Bool) (hr : r.length ≤ 200) : Ev (fun k => intervalmonref29_SameBools.f k r r) true := by
  unfold intervalmonref29_SameBools.f
  simp only [if_true]
  exact same_loop r hr r.length 0 (by omega)
theorem RouteInhibited : intervalmonlaw29_RouteInhibited.Pure := by
  intro l a1 a2 hm h8 hl h1 h2
  refine Ev.rounds ?_
  obtain ⟨n, E, hn, hE, he⟩ := any_gen l (by omega) hl
  obtain ⟨F, hF, hf⟩ := firing_ev n (by omega) a1 h1
  have hb := arn_bd a2 10 (by decide)
  obtain ⟨m, hm2⟩ : ∃ m : Nat, arn a2 10 = (m : Int) := ⟨(arn a2 10).toNat, by omega⟩
  obtain ⟨G, hG, hg⟩ := firing_ev m (by omega) a1 h1
  obtain ⟨r, r1, r2, r3⟩ := inh_both (n : Int) E (by omega) F
  obtain ⟨s, s1, s2, s3⟩ := inh_both (n : Int) E (by omega) G
  unfold intervalmonlaw29_RouteInhibited.f
  refine Ev.bind he ?_
  refine Ev.bind hf ?_
  simp only [intervalmonlaw29_graph.f, Option.bind_some, around a2 10 h2 (by decide), hm2]
  refine Ev.bind hg ?_
  refine Ev.bind r1 (Ev.bind r2 (Ev.bind (same_ev r r3) ?_))
  simp only [if_true]
  refine Ev.bind s1 (Ev.bind s2 (Ev.bind (same_ev s s3) ?_))
  simp only [if_true]
  exact Ev.bind lives29 (Ev.some _)
end Go.Proofs.Ytcamljlhdejmmaa.Pure
