/- A valid fraction for any two ints. -/
import Derived.Test.YtjpgommmkjgddaaDoorMRep
import Derived.Test.YtjpgommmkjgddaaDoorPx15
namespace Go.Proofs.YtjpgommmkjgddaaDoor.Pure
open Go.RowKit Go.Proofs.YtjpgommmkjgddaaDoor.P Go.Proofs.YtjpgommmkjgddaaDoorW.PrintWords Go.Proofs.YtjpgommmkjgddaaDoorW.PrintLast Go.Proofs.YtjpgommmkjgddaaDoorW.PrintMore
set_option linter.unusedVariables false
set_option linter.unusedSimpArgs false
theorem of_ev (n d : Int) (hn : In64 n) (hd : In64 d) : ∃ x y : Int, Ev (fun k => intervalmonref03_Of.f k n d) (x, y) ∧ ValidP x y := by
  have h1 := arn_bd n 4611686018427387905 (by decide)
  have h2 := arn_bd d 2305843009213693952 (by decide)
  have hb : intervalmonref01_Bound.f n 2305843009213693952 = some (arn n 4611686018427387905 - 2305843009213693952) := by
    unfold intervalmonref01_Bound.f
    have w1 : wrap64 (wrap64 (2 * 2305843009213693952) + 1) = 4611686018427387905 := by rw [w64 (2 * 2305843009213693952) (by omega) (by omega), w64 _ (by omega) (by omega)]; rfl
    rw [w1, around n _ hn (by decide), Option.bind_some, w64 _ (by omega) (by omega)]
  obtain ⟨p, ep⟩ : ∃ p, p = arn n 4611686018427387905 - 2305843009213693952 := ⟨_, rfl⟩
  obtain ⟨q, eq⟩ : ∃ q, q = 1 + arn d 2305843009213693952 := ⟨_, rfl⟩
  have hl := new_low p q (by omega) ⟨by omega, by omega⟩ (by omega) (by omega)
  have ok := lowS_ok p q (by omega) (by omega)
  have hr := lowS_rep p q (by omega) ok
  refine ⟨_, _, ?_, hr.val⟩
  unfold intervalmonref03_Of.f
  rw [hb, around d _ hd (by decide)]
  simp only [Option.bind_some]
  rw [w64 (1 + arn d 2305843009213693952) (by omega) (by omega), ← ep, ← eq]
  have := refNew_ev p q ⟨by omega, by omega⟩ ⟨by omega, by omega⟩
  rw [hl] at this
  exact Ev.bind this (Ev.some _)
end Go.Proofs.YtjpgommmkjgddaaDoor.Pure
