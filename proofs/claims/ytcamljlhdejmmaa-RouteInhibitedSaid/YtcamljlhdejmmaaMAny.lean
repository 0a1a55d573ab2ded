/- The generator of graphs of any kind. -/
import Derived.Test.YtcamljlhdejmmaaMAcyc
import Derived.Test.YtcamljlhdejmmaaPx4
namespace Go.Proofs.Ytcamljlhdejmmaa.Pure
open Go.RowKit Go.Proofs.Ytcamljlhdejmmaa.P Go.Proofs.YtcamljlhdejmmaaW.PrintWords Go.Proofs.YtcamljlhdejmmaaW.PrintLast Go.Proofs.YtcamljlhdejmmaaW.PrintMore
set_option linter.unusedVariables false
set_option linter.unusedSimpArgs false
theorem any_j0 (x : Int) (hx : 0 ≤ x ∧ x < 1000) (n : Int) (E : List S27) (hE : E.length ≤ 20) : ∃ E', E'.length ≤ 21 ∧ Ev (fun k => intervalmonref29_Any.j0 k x n E) (n, E') := by
  have j1 : ∀ b : Bool, (b = true → 0 < E.length) → ∃ E', E'.length ≤ 21 ∧ Ev (fun k => intervalmonref29_Any.j1 k x b n E) (n, E') := by
    intro b hb
    cases b with
    | false =>
      refine ⟨E, by omega, Ev.up ?_⟩
      simp only [intervalmonref29_Any.j1]
      simp only [Bool.false_eq_true, if_false]
      exact Ev.some _
    | true =>
      have h := hb rfl
      have hd := tdiv_bd x 3 hx.1 (by decide)
      have hm := tmod_bd (Int.tdiv x 3) (E.length : Int) hd.1 (by omega)
      have hw : wrap64 (Int.tdiv x 3) = Int.tdiv x 3 := w64 _ (by omega) (by omega)
      by_cases c : Int.tmod x 2 = 1
      · refine ⟨E ++ [⟨(rd_T27 E (Int.tmod (Int.tdiv x 3) (E.length : Int))).f1, (rd_T27 E (Int.tmod (Int.tdiv x 3) (E.length : Int))).f0⟩], by simp; omega, Ev.up ?_⟩
        simp only [intervalmonref29_Any.j1]
        simp only [if_true, if_neg (show ¬ (E.length : Int) = 0 by omega), hw, if_pos hm.1, if_pos hm.2, if_pos c, show E.length < 8796093022208 by omega]
        exact Ev.some _
      · refine ⟨E ++ [⟨(rd_T27 E (Int.tmod (Int.tdiv x 3) (E.length : Int))).f0, (rd_T27 E (Int.tmod (Int.tdiv x 3) (E.length : Int))).f1⟩], by simp; omega, Ev.up ?_⟩
        simp only [intervalmonref29_Any.j1]
        simp only [if_true, if_neg (show ¬ (E.length : Int) = 0 by omega), hw, if_pos hm.1, if_pos hm.2, if_neg c, show E.length < 8796093022208 by omega]
        exact Ev.some _
  by_cases c : Int.tmod x 3 = 1
  · obtain ⟨E', h1, h2⟩ := j1 (decide ((E.length : Int) > 0)) (fun h => by have := of_decide_eq_true h; omega)
    refine ⟨E', h1, Ev.up ?_⟩
    simp only [intervalmonref29_Any.j0]
    simp only [if_pos c]; exact h2
  · obtain ⟨E', h1, h2⟩ := j1 false (fun h => by cases h)
    refine ⟨E', h1, Ev.up ?_⟩
    simp only [intervalmonref29_Any.j0]
    simp only [if_neg c]; exact h2
theorem any_gen (l : List Int) (hlen : l.length ≤ 17592186044416) (hl : ∀ x ∈ l, (Lit.int .i64 x).wf = true) : ∃ (n : Nat) (E : List S27), n ≤ 8 ∧ E.length ≤ 21 ∧ Ev (fun k => intervalmonref29_Any.f k l) ((n : Int), E) := by
  obtain ⟨n, E, hn, hE, -, he⟩ := acyc_gen l hl
  have hp := pk_bd l (wrap64 ((l.length : Int) - 1)) 1000 (by decide)
  by_cases c : Int.tmod (pk l (wrap64 ((l.length : Int) - 1)) 1000) 3 = 0
  · obtain ⟨E', h1, h2⟩ := any_j0 _ hp (n : Int) (E ++ [(⟨wrap64 ((Int.tmod (wrap64 (Int.tdiv (pk l (wrap64 ((l.length : Int) - 1)) 1000) 3)) 9) - 1), wrap64 ((Int.tmod (wrap64 (Int.tdiv (pk l (wrap64 ((l.length : Int) - 1)) 1000) 27)) 10) - 1)⟩ : S27)]) (by simp; omega)
    refine ⟨n, E', hn, h1, ?_⟩
    unfold intervalmonref29_Any.f
    refine Ev.bind he ?_
    simp only [pick l hl _ 1000 (by decide), Option.bind_some, if_pos c, show E.length < 8796093022208 by omega, if_true]
    exact h2
  · obtain ⟨E', h1, h2⟩ := any_j0 _ hp (n : Int) E (by omega)
    refine ⟨n, E', hn, h1, ?_⟩
    unfold intervalmonref29_Any.f
    refine Ev.bind he ?_
    simp only [pick l hl _ 1000 (by decide), Option.bind_some, if_neg c]
    exact h2
end Go.Proofs.Ytcamljlhdejmmaa.Pure
