/- For every two integers, the fraction made of them has the text of the reference, which Parse turns into the fraction again; an invalid fraction has no text: its pure statement. No condition. -/
import Derived.Test.YtjpgommmkjgddaaDoorMLives3
import Derived.Test.YtjpgommmkjgddaaDoorMOf
import Derived.Test.YtjpgommmkjgddaaDoorMParse
import Derived.Test.YtjpgommmkjgddaaDoorPx17
namespace Go.Proofs.YtjpgommmkjgddaaDoor.Pure
open Go.RowKit Go.Proofs.YtjpgommmkjgddaaDoor.P Go.Proofs.YtjpgommmkjgddaaDoorW.PrintWords Go.Proofs.YtjpgommmkjgddaaDoorW.PrintLast Go.Proofs.YtjpgommmkjgddaaDoorW.PrintMore
set_option linter.unusedVariables false
set_option linter.unusedSimpArgs false
theorem FracTexts : ∀ (a0 : Int) (a1 : Int), (Lit.int .i64 a0).wf = true → (Lit.int .i64 a1).wf = true → ∃ k, intervalmonlaw03_FracTexts.f k a0 a1 = some true := by
  intro n d hn hd
  have hn := wf64 hn
  have hd := wf64 hd
  obtain ⟨x, y, ho, hv⟩ := of_ev n d hn hd
  have hb := valid_b hv
  refine Ev.rounds ?_
  unfold intervalmonlaw03_FracTexts.f
  refine Ev.bind ho ?_
  refine Ev.bind (text_ev x y hb.1 hb.2) ?_
  refine Ev.bind (parse_yes hv) ?_
  refine Ev.bind (refText_ev x y hb.1 hb.2) ?_
  simp only [beq_self_eq_true, Bool.and_self, if_true]
  refine Ev.bind (text_ev n d hn hd) ?_
  refine Ev.bind (refText_ev n d hn hd) ?_
  simp only [if_true]
  exact Ev.bind lives03 (Ev.some _)
end Go.Proofs.YtjpgommmkjgddaaDoor.Pure
